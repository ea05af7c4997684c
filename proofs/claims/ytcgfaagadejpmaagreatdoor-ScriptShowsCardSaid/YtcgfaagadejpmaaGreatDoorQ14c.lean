-- Written by a program of this session (wip/myprint) out of the translation, for YtcgfaagadejpmaaGreatDoor.
import Derived.Test.YtcgfaagadejpmaaGreatDoorQ14d
namespace Go.Proofs.YtcgfaagadejpmaaGreatDoor.Q
open Go.RowKit Go.Proofs.YtcgfaagadejpmaaGreatDoorW.PrintWords Go.Proofs.YtcgfaagadejpmaaGreatDoorW.PrintLast Go.Proofs.YtcgfaagadejpmaaGreatDoorW.PrintMore Go.Proofs.YtcgfaagadejpmaaGreatDoorW.PrintSq
set_option linter.unusedVariables false
set_option linter.unusedSimpArgs false
set_option maxHeartbeats 8000000 in
set_option maxRecDepth 100000 in
theorem script_step.calls_2 (k : Nat) (a0 : Int) (A1 : Option Addr) (c1 : Nat) (l1 : List ByteArray) (r1 : Int) (r2 : ByteArray) (r3 : ByteArray) (r4 : ByteArray) (r5 : Int) (r6 : Bool) (w : World) (hG : Amb w) (hr1 : Kd.C Kd.string w A1 l1.length l1) (hc1 : l1.length ≤ c1) (h : script_step.f k a0 l1 = some (r1, r2, r3, r4, r5, r6)) (c3 : ¬ a0 = 1) (c6 : ¬ a0 = 2) (c18 : a0 = 3) :
    Calls Tryz.prog 33 #[.int .i64 a0, .slice A1 l1.length c1] w fun e w' => e = .returned (.tuple #[.agg #[.int .i64 r1, .string r2, .string r3, .string r4, .int .i64 r5], .bool r6]) ∧ Below w.heap.size w w' := by
 have hu28 := Tryz.underlying28
 have HR1 := Aside0.mk hr1
 have HC1 := Aside0.mk hc1
 clear hr1 hc1
 have HB := Aside0.mk (Below.refl w.heap.size w)
 unfold script_step.f at h
 have H := h
 clear h
 have HG := Aside0.mk hG
 clear hG
 rw [if_neg c3] at H
 have c3b0 := beq_eq_false_iff_ne.mpr c3
 have c3b1 := bne_iff_ne.mpr c3
 rw [if_neg c6] at H
 have c6b0 := beq_eq_false_iff_ne.mpr c6
 have c6b1 := bne_iff_ne.mpr c6
 rw [if_pos c18] at H
 have c18b0 := beq_iff_eq.mpr c18
 have c18b1 := bne_eq_false_iff_eq.mpr c18
 clear c18
 obtain ⟨c19, H⟩ := iteS H
 have c19b0 := decide_eq_true c19
 have c19b1 : decide (0 < l1.length) = true := decide_eq_true (by omega)
 clear c19
 obtain ⟨c20, H⟩ := iteS H
 have c20b0 := decide_eq_true c20
 have c20b1 : decide (1 < l1.length) = true := decide_eq_true (by omega)
 clear c20
 obtain ⟨c21, H⟩ := iteS H
 have c21b0 := decide_eq_true c21
 have c21b1 : decide (2 < l1.length) = true := decide_eq_true (by omega)
 clear c21
 replace H := Option.bind_eq_some_iff.mp H
 obtain ⟨⟨t254, t255⟩, A220, H⟩ := H
 try dsimp only at H
 have A22 := Aside0.mk A220
 clear A220
 by_cases c23 : t255 = true
 ·subst c23
  rw [if_pos rfl] at H
  by_cases c24 : (rdOf ByteArray.empty l1 2).toList = ([] : List UInt8)
  ·rw [if_pos c24] at H
   have c24b0 := beq_iff_eq.mpr c24
   have c24b1 := bne_eq_false_iff_eq.mpr c24
   clear c24
   simp only [Option.some.injEq, Prod.mk.injEq] at H
   obtain ⟨rfl, rfl, rfl, rfl, rfl, rfl⟩ := H
   go_enter Tryz.func33, Tryz.ntmps33
   try go_wp2_with (first | ((with_reducible refine gate_dst (N := 4) rfl ?_); refine box_event ?hg (N := 4) ?hd (cs := #[.int .i64 0, .string (⟨#[]⟩ : ByteArray), .string (⟨#[]⟩ : ByteArray), .string (⟨#[]⟩ : ByteArray), .int .i64 0]) (t := 28) ?hr ?_; (case hd => rfl); (case hg => rfl); (case hr => first | (go_simp; done) | (go_simp; rfl)); intro gb246 hg w25 hbox hb; have BK246 := Aside0.mk (hbox); have GW246 : Aside0 (w.heap.size ≤ gb246) := gw_ hg; have GE246 : Aside0 (w.heap.size ≤ gb246) := gw_ hg; replace HB := Aside0.mk (below_step blw hb); clear hb hbox hg; have hcz26_0 : w25.cell? ⟨gb246, 0, none⟩ = some (.int .i64 0) := bk_ BK246; have hcz26_1 : w25.cell? ⟨gb246, 1, none⟩ = some (.string (⟨#[]⟩ : ByteArray)) := bk_ BK246; have hcz26_2 : w25.cell? ⟨gb246, 2, none⟩ = some (.string (⟨#[]⟩ : ByteArray)) := bk_ BK246; have hcz26_3 : w25.cell? ⟨gb246, 3, none⟩ = some (.string (⟨#[]⟩ : ByteArray)) := bk_ BK246; have hcz26_4 : w25.cell? ⟨gb246, 4, none⟩ = some (.int .i64 0) := bk_ BK246; have hfz26_0 := blk_frozen BK246.out 0; have hfz26_1 := blk_frozen BK246.out 1; have hfz26_2 := blk_frozen BK246.out 2; have hfz26_3 := blk_frozen BK246.out 3; have hfz26_4 := blk_frozen BK246.out 4))
   have n0_ : Aside0 ((w25.setCell ⟨gb246, 0, none⟩ (.int .i64 a0)).heap[gb246]? = some (.cells #[.int .i64 a0, .string (⟨#[]⟩ : ByteArray), .string (⟨#[]⟩ : ByteArray), .string (⟨#[]⟩ : ByteArray), .int .i64 0] 28 (0, 0))) := ⟨by (with_reducible repeat (first | refine blk_drewN ?_ _ | refine blk_drew ?_ | refine blk_alloc ?_ _)); refine blk_put (cs := #[.int .i64 0, .string (⟨#[]⟩ : ByteArray), .string (⟨#[]⟩ : ByteArray), .string (⟨#[]⟩ : ByteArray), .int .i64 0]) ?_ 0 _ rfl; (with_reducible repeat (first | refine blk_drewN ?_ _ | refine blk_drew ?_ | refine blk_alloc ?_ _)); exact BK246.out⟩
   have n1_ : Aside0 (Below w.heap.size w (w25.setCell ⟨gb246, 0, none⟩ (.int .i64 a0))) := ⟨blw⟩
   (try clear BK246)
   (try clear HB)
   generalize (w25.setCell ⟨gb246, 0, none⟩ (.int .i64 a0)) = w27 at n0_ n1_ ⊢
   have BK246 := n0_
   have HB := n1_
   clear n0_ n1_
   replace BK246 := Aside0.mk (blk_drew BK246.out)
   replace HB := Aside0.mk (below_drew1 HB.out)
   have p251 : 0 ≤ (0 : Int) := (by omega)
   have q251 : 0 < (l1.length : Int) := od_
   obtain ⟨ad251, e251, hx251_0⟩ := Kd.at_string HR1.out 0 p251 q251
   have hw251_0 := hx251_0
   (try rw [show ((0 : Int)).toNat = 0 from rfl] at hw251_0)
   (try rw [show 0 * 1 = 0 from rfl] at hw251_0)
   (try rw [Addr.add_zero'] at hw251_0)
   cases e251
   have qi251 : (0 < l1.length) = True := eq_true (by omega)
   (try rw [show ((0 : Int)).toNat = 0 from rfl] at hx251_0)
   (try rw [Addr.add_zero'] at hx251_0)
   replace hx251_0 := (HB.out.cell (World.block_lt_of_cell? w _ hx251_0)).trans hx251_0
   replace p251 := eq_true p251
   replace q251 := eq_true q251
   have p252 : 0 ≤ (1 : Int) := (by omega)
   have q252 : 1 < (l1.length : Int) := od_
   obtain ⟨ad252, e252, hx252_0⟩ := Kd.at_string HR1.out 1 p252 q252
   have hw252_0 := hx252_0
   (try rw [show ((1 : Int)).toNat = 1 from rfl] at hw252_0)
   (try rw [show 1 * 1 = 1 from rfl] at hw252_0)
   (try simp only [Nat.reduceMul, Nat.reduceEqDiff, Go.Addr.add, ↓reduceIte] at hw252_0)
   obtain rfl : ad251 = ad252 := (by injection e252)
   (try simp only [show (1 : Int).toNat = 1 from rfl, Nat.reduceMul, Nat.reduceEqDiff, Go.Addr.add, ↓reduceIte] at hx252_0)
   have qi252 : (1 < l1.length) = True := eq_true (by omega)
   (try rw [show ((1 : Int)).toNat = 1 from rfl] at hx252_0)
   replace hx252_0 := (HB.out.cell (World.block_lt_of_cell? w _ hx252_0)).trans hx252_0
   replace p252 := eq_true p252
   replace q252 := eq_true q252
   refine start_ (n := 10) (S := fun w' => w'.cell? ad251 = some (.string (rdOf ByteArray.empty l1 0)) ∧ w'.cell? ⟨ad251.block, ad251.off + 1, none⟩ = some (.string (rdOf ByteArray.empty l1 1))) (ds := []) (ba 10 0) (by kernel_rfl) rfl rfl ⟨hc_ hw251_0, hc_ hw252_0⟩ (fun hHeld => ?_); refine with_tabW script_step.tab9 script_step.bits9 (fun HT_ HW_ => ?_)
   generalize w27.drew = w28 at BK246 HB hx251_0 hx252_0 hHeld ⊢
   refine pu_ 0 30 1 ?_
   refine pu_ 1 31 3 ?_
   refine pu_ 3 33 11 ?_
   refine pu_ 4 34 27 ?_
   refine tk_ 2 32 31 hHeld ?_
   refine pu_ 6 36 95 ?_
   refine tk_ 5 35 127 hHeld ?_
   refine one1 7 none 255 (fun K hK => ?_)
   have hs29 : w28.cell? ⟨gb246, 1, none⟩ = some (.string (⟨#[]⟩ : ByteArray)) := bk_ BK246
   have hfs29 := blk_frozen BK246.out 1
   refine skip_ (w1 := ?_) (by rfl) rfl ?_ ?_
   rotate_left
   ·go_simp
    rfl
   refine hK.out _ _ ⟨((cell_far (p := ⟨gb246, _, none⟩) (by first | exact Nat.ne_of_lt (Nat.lt_of_lt_of_le (by have := World.block_lt_of_cell? _ _ hw251_0; first | rwa [add_block] at this | exact this) GW246.out) | (rw [add_block]; exact Nat.ne_of_lt (Nat.lt_of_lt_of_le (by have := World.block_lt_of_cell? _ _ hw251_0; first | rwa [add_block] at this | exact this) GW246.out)) | (show (Addr.add _ _).block ≠ _; rw [add_block]; exact Nat.ne_of_lt (Nat.lt_of_lt_of_le (by have := World.block_lt_of_cell? _ _ hw251_0; first | rwa [add_block] at this | exact this) GW246.out)) | (dsimp only; exact Nat.ne_of_lt (Nat.lt_of_lt_of_le (by have := World.block_lt_of_cell? _ _ hw251_0; first | rwa [add_block] at this | exact this) GW246.out))) _).trans (hHeld.1)), ((cell_far (p := ⟨gb246, _, none⟩) (by first | exact Nat.ne_of_lt (Nat.lt_of_lt_of_le (by have := World.block_lt_of_cell? _ _ hw252_0; first | rwa [add_block] at this | exact this) GW246.out) | (rw [add_block]; exact Nat.ne_of_lt (Nat.lt_of_lt_of_le (by have := World.block_lt_of_cell? _ _ hw252_0; first | rwa [add_block] at this | exact this) GW246.out)) | (show (Addr.add _ _).block ≠ _; rw [add_block]; exact Nat.ne_of_lt (Nat.lt_of_lt_of_le (by have := World.block_lt_of_cell? _ _ hw252_0; first | rwa [add_block] at this | exact this) GW246.out)) | (dsimp only; exact Nat.ne_of_lt (Nat.lt_of_lt_of_le (by have := World.block_lt_of_cell? _ _ hw252_0; first | rwa [add_block] at this | exact this) GW246.out))) _).trans (hHeld.2))⟩ (fun hHeld => ?_)
   clear hK K
   refine pu_ 8 37 511 ?_
   refine one1 9 none 1023 (fun K hK => ?_)
   have hs30 : w28.cell? ⟨gb246, 2, none⟩ = some (.string (⟨#[]⟩ : ByteArray)) := bk_ BK246
   have hfs30 := blk_frozen BK246.out 2
   refine skip_ (w1 := ?_) (by rfl) rfl ?_ ?_
   rotate_left
   ·go_simp
    rfl
   refine hK.out _ _ ⟨((cell_far (p := ⟨gb246, _, none⟩) (by first | exact Nat.ne_of_lt (Nat.lt_of_lt_of_le (by have := World.block_lt_of_cell? _ _ hw251_0; first | rwa [add_block] at this | exact this) GW246.out) | (rw [add_block]; exact Nat.ne_of_lt (Nat.lt_of_lt_of_le (by have := World.block_lt_of_cell? _ _ hw251_0; first | rwa [add_block] at this | exact this) GW246.out)) | (show (Addr.add _ _).block ≠ _; rw [add_block]; exact Nat.ne_of_lt (Nat.lt_of_lt_of_le (by have := World.block_lt_of_cell? _ _ hw251_0; first | rwa [add_block] at this | exact this) GW246.out)) | (dsimp only; exact Nat.ne_of_lt (Nat.lt_of_lt_of_le (by have := World.block_lt_of_cell? _ _ hw251_0; first | rwa [add_block] at this | exact this) GW246.out))) _).trans (hHeld.1)), ((cell_far (p := ⟨gb246, _, none⟩) (by first | exact Nat.ne_of_lt (Nat.lt_of_lt_of_le (by have := World.block_lt_of_cell? _ _ hw252_0; first | rwa [add_block] at this | exact this) GW246.out) | (rw [add_block]; exact Nat.ne_of_lt (Nat.lt_of_lt_of_le (by have := World.block_lt_of_cell? _ _ hw252_0; first | rwa [add_block] at this | exact this) GW246.out)) | (show (Addr.add _ _).block ≠ _; rw [add_block]; exact Nat.ne_of_lt (Nat.lt_of_lt_of_le (by have := World.block_lt_of_cell? _ _ hw252_0; first | rwa [add_block] at this | exact this) GW246.out)) | (dsimp only; exact Nat.ne_of_lt (Nat.lt_of_lt_of_le (by have := World.block_lt_of_cell? _ _ hw252_0; first | rwa [add_block] at this | exact this) GW246.out))) _).trans (hHeld.2))⟩ (fun hHeld => ?_)
   clear hK K
   refine done_ (done_of HT_.out (by kernel_rfl)) ?_
   have p253 : 0 ≤ (2 : Int) := (by omega)
   have q253 : 2 < (l1.length : Int) := od_
   obtain ⟨ad253, e253, hx253_0⟩ := Kd.at_string HR1.out 2 p253 q253
   obtain rfl : ad251 = ad253 := (by injection e253)
   (try simp only [show (2 : Int).toNat = 2 from rfl, Nat.reduceMul, Nat.reduceEqDiff, Go.Addr.add, ↓reduceIte] at hx253_0)
   have qi253 : (2 < l1.length) = True := eq_true (by omega)
   (try rw [show ((2 : Int)).toNat = 2 from rfl] at hx253_0)
   have hn253_0 : ad251.block ≠ gb246 := Nat.ne_of_lt (Nat.lt_of_lt_of_le (by have := World.block_lt_of_cell? _ _ hx253_0; first | rwa [add_block] at this | exact this) GW246.out)
   have hn253_1 : ad251.block ≠ gb246 := Nat.ne_of_lt (Nat.lt_of_lt_of_le (by have := World.block_lt_of_cell? _ _ hx253_0; first | rwa [add_block] at this | exact this) GW246.out)
   replace hx253_0 := (HB.out.cell (World.block_lt_of_cell? w _ hx253_0)).trans hx253_0
   replace hx253_0 := (cell_far (p := ⟨gb246, 1, none⟩) (by first | (rw [add_block]; exact hn253_0) | (show (Addr.add _ _).block ≠ _; rw [add_block]; exact hn253_0) | exact hn253_0) (.string (rdOf ByteArray.empty l1 0))).trans hx253_0
   replace hx253_0 := (cell_far (p := ⟨gb246, 2, none⟩) (by first | (rw [add_block]; exact hn253_1) | (show (Addr.add _ _).block ≠ _; rw [add_block]; exact hn253_1) | exact hn253_1) (.string (rdOf ByteArray.empty l1 1))).trans hx253_0
   clear hn253_0
   clear hn253_1
   replace p253 := eq_true p253
   replace q253 := eq_true q253
   try go_wp2_with (first | ((with_reducible refine gc 5 rfl ?_); refine cl_ (some 42) Tryz.func5 (script_Unescape.calls k (rdOf ByteArray.empty l1 2) t254 true _ A22.out) ?_; rintro w31 hb; replace BK246 := Aside0.mk (blk_below (g := gb246) (o := .cells #[.int .i64 a0, .string (rdOf ByteArray.empty l1 0), .string (rdOf ByteArray.empty l1 1), .string (⟨#[]⟩ : ByteArray), .int .i64 0] 28 (0, 0)) (by (with_reducible repeat (first | refine blk_drewN ?_ _ | refine blk_drew ?_ | refine blk_alloc ?_ _)); refine blk_put (cs := #[.int .i64 a0, .string (rdOf ByteArray.empty l1 0), .string (⟨#[]⟩ : ByteArray), .string (⟨#[]⟩ : ByteArray), .int .i64 0]) ?_ 2 _ rfl; (with_reducible repeat (first | refine blk_drewN ?_ _ | refine blk_drew ?_ | refine blk_alloc ?_ _)); refine blk_put (cs := #[.int .i64 a0, .string (⟨#[]⟩ : ByteArray), .string (⟨#[]⟩ : ByteArray), .string (⟨#[]⟩ : ByteArray), .int .i64 0]) ?_ 1 _ rfl; (with_reducible repeat (first | refine blk_drewN ?_ _ | refine blk_drew ?_ | refine blk_alloc ?_ _)); exact BK246.out) hb); replace HB := Aside0.mk (below_step blw hb); (try clear hb); have hcz32_0 : w31.cell? ⟨gb246, 0, none⟩ = some (.int .i64 a0) := bk_ BK246; have hcz32_1 : w31.cell? ⟨gb246, 1, none⟩ = some (.string (rdOf ByteArray.empty l1 0)) := bk_ BK246; have hcz32_2 : w31.cell? ⟨gb246, 2, none⟩ = some (.string (rdOf ByteArray.empty l1 1)) := bk_ BK246; have hcz32_3 : w31.cell? ⟨gb246, 3, none⟩ = some (.string (⟨#[]⟩ : ByteArray)) := bk_ BK246; have hcz32_4 : w31.cell? ⟨gb246, 4, none⟩ = some (.int .i64 0) := bk_ BK246; have hfz32_0 := blk_frozen BK246.out 0; have hfz32_1 := blk_frozen BK246.out 1; have hfz32_2 := blk_frozen BK246.out 2; have hfz32_3 := blk_frozen BK246.out 3; have hfz32_4 := blk_frozen BK246.out 4; have p256 : 0 ≤ (2 : Int) := (by omega); have q256 : 2 < (l1.length : Int) := od_; obtain ⟨ad256, e256, hx256_0⟩ := Kd.at_string HR1.out 2 p256 q256; obtain rfl : ad251 = ad256 := (by injection e256); (try simp only [show (2 : Int).toNat = 2 from rfl, Nat.reduceMul, Nat.reduceEqDiff, Go.Addr.add, ↓reduceIte] at hx256_0); have qi256 : (2 < l1.length) = True := eq_true (by omega); (try rw [show ((2 : Int)).toNat = 2 from rfl] at hx256_0); have hn256_0 : ad251.block ≠ gb246 := Nat.ne_of_lt (Nat.lt_of_lt_of_le (by have := World.block_lt_of_cell? _ _ hx256_0; first | rwa [add_block] at this | exact this) GW246.out); replace hx256_0 := (HB.out.cell (World.block_lt_of_cell? w _ hx256_0)).trans hx256_0; replace hx256_0 := (cell_far (p := ⟨gb246, 3, none⟩) (by first | (rw [add_block]; exact hn256_0) | (show (Addr.add _ _).block ≠ _; rw [add_block]; exact hn256_0) | exact hn256_0) (.string t254)).trans hx256_0; clear hn256_0; replace p256 := eq_true p256; replace q256 := eq_true q256))
   refine bodyPost_ret (results_ct rfl _ _ gb246 28 #[.int .i64 a0, .string (rdOf ByteArray.empty l1 0), .string (rdOf ByteArray.empty l1 1), .string t254, .int .i64 0] (0, 0) _ rfl (by (with_reducible repeat (first | refine blk_drewN ?_ _ | refine blk_drew ?_ | refine blk_alloc ?_ _)); refine blk_put (cs := #[.int .i64 a0, .string (rdOf ByteArray.empty l1 0), .string (rdOf ByteArray.empty l1 1), .string t254, .int .i64 0]) ?_ 4 _ rfl; (with_reducible repeat (first | refine blk_drewN ?_ _ | refine blk_drew ?_ | refine blk_alloc ?_ _)); refine blk_put (cs := #[.int .i64 a0, .string (rdOf ByteArray.empty l1 0), .string (rdOf ByteArray.empty l1 1), .string t254, .int .i64 0]) ?_ 3 _ rfl; (with_reducible repeat (first | refine blk_drewN ?_ _ | refine blk_drew ?_ | refine blk_alloc ?_ _)); refine blk_put (cs := #[.int .i64 a0, .string (rdOf ByteArray.empty l1 0), .string (rdOf ByteArray.empty l1 1), .string t254, .int .i64 0]) ?_ 2 _ rfl; (with_reducible repeat (first | refine blk_drewN ?_ _ | refine blk_drew ?_ | refine blk_alloc ?_ _)); refine blk_put (cs := #[.int .i64 a0, .string (rdOf ByteArray.empty l1 0), .string (rdOf ByteArray.empty l1 1), .string t254, .int .i64 0]) ?_ 1 _ rfl; (with_reducible repeat (first | refine blk_drewN ?_ _ | refine blk_drew ?_ | refine blk_alloc ?_ _)); refine blk_put (cs := #[.int .i64 a0, .string (rdOf ByteArray.empty l1 0), .string (rdOf ByteArray.empty l1 1), .string t254, .int .i64 0]) ?_ 0 _ rfl; (with_reducible repeat (first | refine blk_drewN ?_ _ | refine blk_drew ?_ | refine blk_alloc ?_ _)); refine blk_put (cs := #[.int .i64 a0, .string (rdOf ByteArray.empty l1 0), .string (rdOf ByteArray.empty l1 1), .string (⟨#[]⟩ : ByteArray), .int .i64 0]) ?_ 3 _ rfl; (with_reducible repeat (first | refine blk_drewN ?_ _ | refine blk_drew ?_ | refine blk_alloc ?_ _)); exact BK246.out) Tryz.underlying28 rfl (by kernel_rfl)) rfl ?_
   exact ⟨by first | rfl | (simp [errW_none, errW_some] <;> rfl) | (simp [*, errW_none, errW_some] <;> rfl), blw⟩
  ·rw [if_neg c24] at H
   have c24b0 := beq_eq_false_iff_ne.mpr c24
   have c24b1 := bne_iff_ne.mpr c24
   by_cases c33 : (rdOf ByteArray.empty l1 0).toList = ([45] : List UInt8)
   ·rw [if_pos c33] at H
    have c33b0 := beq_iff_eq.mpr c33
    have c33b1 := bne_eq_false_iff_eq.mpr c33
    clear c33
    replace H := Option.bind_eq_some_iff.mp H
    obtain ⟨t257, A340, H⟩ := H
    try dsimp only at H
    have A34 := Aside0.mk A340
    clear A340
    simp only [Option.some.injEq, Prod.mk.injEq] at H
    obtain ⟨rfl, rfl, rfl, rfl, rfl, rfl⟩ := H
    go_enter Tryz.func33, Tryz.ntmps33
    try go_wp2_with (first | ((with_reducible refine gate_dst (N := 4) rfl ?_); refine box_event ?hg (N := 4) ?hd (cs := #[.int .i64 0, .string (⟨#[]⟩ : ByteArray), .string (⟨#[]⟩ : ByteArray), .string (⟨#[]⟩ : ByteArray), .int .i64 0]) (t := 28) ?hr ?_; (case hd => rfl); (case hg => rfl); (case hr => first | (go_simp; done) | (go_simp; rfl)); intro gb246 hg w35 hbox hb; have BK246 := Aside0.mk (hbox); have GW246 : Aside0 (w.heap.size ≤ gb246) := gw_ hg; have GE246 : Aside0 (w.heap.size ≤ gb246) := gw_ hg; replace HB := Aside0.mk (below_step blw hb); clear hb hbox hg; have hcz36_0 : w35.cell? ⟨gb246, 0, none⟩ = some (.int .i64 0) := bk_ BK246; have hcz36_1 : w35.cell? ⟨gb246, 1, none⟩ = some (.string (⟨#[]⟩ : ByteArray)) := bk_ BK246; have hcz36_2 : w35.cell? ⟨gb246, 2, none⟩ = some (.string (⟨#[]⟩ : ByteArray)) := bk_ BK246; have hcz36_3 : w35.cell? ⟨gb246, 3, none⟩ = some (.string (⟨#[]⟩ : ByteArray)) := bk_ BK246; have hcz36_4 : w35.cell? ⟨gb246, 4, none⟩ = some (.int .i64 0) := bk_ BK246; have hfz36_0 := blk_frozen BK246.out 0; have hfz36_1 := blk_frozen BK246.out 1; have hfz36_2 := blk_frozen BK246.out 2; have hfz36_3 := blk_frozen BK246.out 3; have hfz36_4 := blk_frozen BK246.out 4))
    have n0_ : Aside0 ((w35.setCell ⟨gb246, 0, none⟩ (.int .i64 a0)).heap[gb246]? = some (.cells #[.int .i64 a0, .string (⟨#[]⟩ : ByteArray), .string (⟨#[]⟩ : ByteArray), .string (⟨#[]⟩ : ByteArray), .int .i64 0] 28 (0, 0))) := ⟨by (with_reducible repeat (first | refine blk_drewN ?_ _ | refine blk_drew ?_ | refine blk_alloc ?_ _)); refine blk_put (cs := #[.int .i64 0, .string (⟨#[]⟩ : ByteArray), .string (⟨#[]⟩ : ByteArray), .string (⟨#[]⟩ : ByteArray), .int .i64 0]) ?_ 0 _ rfl; (with_reducible repeat (first | refine blk_drewN ?_ _ | refine blk_drew ?_ | refine blk_alloc ?_ _)); exact BK246.out⟩
    have n1_ : Aside0 (Below w.heap.size w (w35.setCell ⟨gb246, 0, none⟩ (.int .i64 a0))) := ⟨blw⟩
    (try clear BK246)
    (try clear HB)
    generalize (w35.setCell ⟨gb246, 0, none⟩ (.int .i64 a0)) = w37 at n0_ n1_ ⊢
    have BK246 := n0_
    have HB := n1_
    clear n0_ n1_
    replace BK246 := Aside0.mk (blk_drew BK246.out)
    replace HB := Aside0.mk (below_drew1 HB.out)
    have p251 : 0 ≤ (0 : Int) := (by omega)
    have q251 : 0 < (l1.length : Int) := od_
    obtain ⟨ad251, e251, hx251_0⟩ := Kd.at_string HR1.out 0 p251 q251
    have hw251_0 := hx251_0
    (try rw [show ((0 : Int)).toNat = 0 from rfl] at hw251_0)
    (try rw [show 0 * 1 = 0 from rfl] at hw251_0)
    (try rw [Addr.add_zero'] at hw251_0)
    cases e251
    have qi251 : (0 < l1.length) = True := eq_true (by omega)
    (try rw [show ((0 : Int)).toNat = 0 from rfl] at hx251_0)
    (try rw [Addr.add_zero'] at hx251_0)
    replace hx251_0 := (HB.out.cell (World.block_lt_of_cell? w _ hx251_0)).trans hx251_0
    replace p251 := eq_true p251
    replace q251 := eq_true q251
    have p252 : 0 ≤ (1 : Int) := (by omega)
    have q252 : 1 < (l1.length : Int) := od_
    obtain ⟨ad252, e252, hx252_0⟩ := Kd.at_string HR1.out 1 p252 q252
    have hw252_0 := hx252_0
    (try rw [show ((1 : Int)).toNat = 1 from rfl] at hw252_0)
    (try rw [show 1 * 1 = 1 from rfl] at hw252_0)
    (try simp only [Nat.reduceMul, Nat.reduceEqDiff, Go.Addr.add, ↓reduceIte] at hw252_0)
    obtain rfl : ad251 = ad252 := (by injection e252)
    (try simp only [show (1 : Int).toNat = 1 from rfl, Nat.reduceMul, Nat.reduceEqDiff, Go.Addr.add, ↓reduceIte] at hx252_0)
    have qi252 : (1 < l1.length) = True := eq_true (by omega)
    (try rw [show ((1 : Int)).toNat = 1 from rfl] at hx252_0)
    replace hx252_0 := (HB.out.cell (World.block_lt_of_cell? w _ hx252_0)).trans hx252_0
    replace p252 := eq_true p252
    replace q252 := eq_true q252
    refine start_ (n := 10) (S := fun w' => w'.cell? ad251 = some (.string (rdOf ByteArray.empty l1 0)) ∧ w'.cell? ⟨ad251.block, ad251.off + 1, none⟩ = some (.string (rdOf ByteArray.empty l1 1))) (ds := []) (ba 10 0) (by kernel_rfl) rfl rfl ⟨hc_ hw251_0, hc_ hw252_0⟩ (fun hHeld => ?_); refine with_tabW script_step.tab9 script_step.bits9 (fun HT_ HW_ => ?_)
    generalize w37.drew = w38 at BK246 HB hx251_0 hx252_0 hHeld ⊢
    refine pu_ 0 30 1 ?_
    refine pu_ 1 31 3 ?_
    refine pu_ 3 33 11 ?_
    refine pu_ 4 34 27 ?_
    refine tk_ 2 32 31 hHeld ?_
    refine pu_ 6 36 95 ?_
    refine tk_ 5 35 127 hHeld ?_
    refine one1 7 none 255 (fun K hK => ?_)
    have hs39 : w38.cell? ⟨gb246, 1, none⟩ = some (.string (⟨#[]⟩ : ByteArray)) := bk_ BK246
    have hfs39 := blk_frozen BK246.out 1
    refine skip_ (w1 := ?_) (by rfl) rfl ?_ ?_
    rotate_left
    ·go_simp
     rfl
    refine hK.out _ _ ⟨((cell_far (p := ⟨gb246, _, none⟩) (by first | exact Nat.ne_of_lt (Nat.lt_of_lt_of_le (by have := World.block_lt_of_cell? _ _ hw251_0; first | rwa [add_block] at this | exact this) GW246.out) | (rw [add_block]; exact Nat.ne_of_lt (Nat.lt_of_lt_of_le (by have := World.block_lt_of_cell? _ _ hw251_0; first | rwa [add_block] at this | exact this) GW246.out)) | (show (Addr.add _ _).block ≠ _; rw [add_block]; exact Nat.ne_of_lt (Nat.lt_of_lt_of_le (by have := World.block_lt_of_cell? _ _ hw251_0; first | rwa [add_block] at this | exact this) GW246.out)) | (dsimp only; exact Nat.ne_of_lt (Nat.lt_of_lt_of_le (by have := World.block_lt_of_cell? _ _ hw251_0; first | rwa [add_block] at this | exact this) GW246.out))) _).trans (hHeld.1)), ((cell_far (p := ⟨gb246, _, none⟩) (by first | exact Nat.ne_of_lt (Nat.lt_of_lt_of_le (by have := World.block_lt_of_cell? _ _ hw252_0; first | rwa [add_block] at this | exact this) GW246.out) | (rw [add_block]; exact Nat.ne_of_lt (Nat.lt_of_lt_of_le (by have := World.block_lt_of_cell? _ _ hw252_0; first | rwa [add_block] at this | exact this) GW246.out)) | (show (Addr.add _ _).block ≠ _; rw [add_block]; exact Nat.ne_of_lt (Nat.lt_of_lt_of_le (by have := World.block_lt_of_cell? _ _ hw252_0; first | rwa [add_block] at this | exact this) GW246.out)) | (dsimp only; exact Nat.ne_of_lt (Nat.lt_of_lt_of_le (by have := World.block_lt_of_cell? _ _ hw252_0; first | rwa [add_block] at this | exact this) GW246.out))) _).trans (hHeld.2))⟩ (fun hHeld => ?_)
    clear hK K
    refine pu_ 8 37 511 ?_
    refine one1 9 none 1023 (fun K hK => ?_)
    have hs40 : w38.cell? ⟨gb246, 2, none⟩ = some (.string (⟨#[]⟩ : ByteArray)) := bk_ BK246
    have hfs40 := blk_frozen BK246.out 2
    refine skip_ (w1 := ?_) (by rfl) rfl ?_ ?_
    rotate_left
    ·go_simp
     rfl
    refine hK.out _ _ ⟨((cell_far (p := ⟨gb246, _, none⟩) (by first | exact Nat.ne_of_lt (Nat.lt_of_lt_of_le (by have := World.block_lt_of_cell? _ _ hw251_0; first | rwa [add_block] at this | exact this) GW246.out) | (rw [add_block]; exact Nat.ne_of_lt (Nat.lt_of_lt_of_le (by have := World.block_lt_of_cell? _ _ hw251_0; first | rwa [add_block] at this | exact this) GW246.out)) | (show (Addr.add _ _).block ≠ _; rw [add_block]; exact Nat.ne_of_lt (Nat.lt_of_lt_of_le (by have := World.block_lt_of_cell? _ _ hw251_0; first | rwa [add_block] at this | exact this) GW246.out)) | (dsimp only; exact Nat.ne_of_lt (Nat.lt_of_lt_of_le (by have := World.block_lt_of_cell? _ _ hw251_0; first | rwa [add_block] at this | exact this) GW246.out))) _).trans (hHeld.1)), ((cell_far (p := ⟨gb246, _, none⟩) (by first | exact Nat.ne_of_lt (Nat.lt_of_lt_of_le (by have := World.block_lt_of_cell? _ _ hw252_0; first | rwa [add_block] at this | exact this) GW246.out) | (rw [add_block]; exact Nat.ne_of_lt (Nat.lt_of_lt_of_le (by have := World.block_lt_of_cell? _ _ hw252_0; first | rwa [add_block] at this | exact this) GW246.out)) | (show (Addr.add _ _).block ≠ _; rw [add_block]; exact Nat.ne_of_lt (Nat.lt_of_lt_of_le (by have := World.block_lt_of_cell? _ _ hw252_0; first | rwa [add_block] at this | exact this) GW246.out)) | (dsimp only; exact Nat.ne_of_lt (Nat.lt_of_lt_of_le (by have := World.block_lt_of_cell? _ _ hw252_0; first | rwa [add_block] at this | exact this) GW246.out))) _).trans (hHeld.2))⟩ (fun hHeld => ?_)
    clear hK K
    refine done_ (done_of HT_.out (by kernel_rfl)) ?_
    have p253 : 0 ≤ (2 : Int) := (by omega)
    have q253 : 2 < (l1.length : Int) := od_
    obtain ⟨ad253, e253, hx253_0⟩ := Kd.at_string HR1.out 2 p253 q253
    obtain rfl : ad251 = ad253 := (by injection e253)
    (try simp only [show (2 : Int).toNat = 2 from rfl, Nat.reduceMul, Nat.reduceEqDiff, Go.Addr.add, ↓reduceIte] at hx253_0)
    have qi253 : (2 < l1.length) = True := eq_true (by omega)
    (try rw [show ((2 : Int)).toNat = 2 from rfl] at hx253_0)
    have hn253_0 : ad251.block ≠ gb246 := Nat.ne_of_lt (Nat.lt_of_lt_of_le (by have := World.block_lt_of_cell? _ _ hx253_0; first | rwa [add_block] at this | exact this) GW246.out)
    have hn253_1 : ad251.block ≠ gb246 := Nat.ne_of_lt (Nat.lt_of_lt_of_le (by have := World.block_lt_of_cell? _ _ hx253_0; first | rwa [add_block] at this | exact this) GW246.out)
    replace hx253_0 := (HB.out.cell (World.block_lt_of_cell? w _ hx253_0)).trans hx253_0
    replace hx253_0 := (cell_far (p := ⟨gb246, 1, none⟩) (by first | (rw [add_block]; exact hn253_0) | (show (Addr.add _ _).block ≠ _; rw [add_block]; exact hn253_0) | exact hn253_0) (.string (rdOf ByteArray.empty l1 0))).trans hx253_0
    replace hx253_0 := (cell_far (p := ⟨gb246, 2, none⟩) (by first | (rw [add_block]; exact hn253_1) | (show (Addr.add _ _).block ≠ _; rw [add_block]; exact hn253_1) | exact hn253_1) (.string (rdOf ByteArray.empty l1 1))).trans hx253_0
    clear hn253_0
    clear hn253_1
    replace p253 := eq_true p253
    replace q253 := eq_true q253
    try go_wp2_with (first | ((with_reducible refine gc 5 rfl ?_); refine cl_ (some 42) Tryz.func5 (script_Unescape.calls k (rdOf ByteArray.empty l1 2) t254 true _ A22.out) ?_; rintro w41 hb; replace BK246 := Aside0.mk (blk_below (g := gb246) (o := .cells #[.int .i64 a0, .string (rdOf ByteArray.empty l1 0), .string (rdOf ByteArray.empty l1 1), .string (⟨#[]⟩ : ByteArray), .int .i64 0] 28 (0, 0)) (by (with_reducible repeat (first | refine blk_drewN ?_ _ | refine blk_drew ?_ | refine blk_alloc ?_ _)); refine blk_put (cs := #[.int .i64 a0, .string (rdOf ByteArray.empty l1 0), .string (⟨#[]⟩ : ByteArray), .string (⟨#[]⟩ : ByteArray), .int .i64 0]) ?_ 2 _ rfl; (with_reducible repeat (first | refine blk_drewN ?_ _ | refine blk_drew ?_ | refine blk_alloc ?_ _)); refine blk_put (cs := #[.int .i64 a0, .string (⟨#[]⟩ : ByteArray), .string (⟨#[]⟩ : ByteArray), .string (⟨#[]⟩ : ByteArray), .int .i64 0]) ?_ 1 _ rfl; (with_reducible repeat (first | refine blk_drewN ?_ _ | refine blk_drew ?_ | refine blk_alloc ?_ _)); exact BK246.out) hb); replace HB := Aside0.mk (below_step blw hb); (try clear hb); have hcz42_0 : w41.cell? ⟨gb246, 0, none⟩ = some (.int .i64 a0) := bk_ BK246; have hcz42_1 : w41.cell? ⟨gb246, 1, none⟩ = some (.string (rdOf ByteArray.empty l1 0)) := bk_ BK246; have hcz42_2 : w41.cell? ⟨gb246, 2, none⟩ = some (.string (rdOf ByteArray.empty l1 1)) := bk_ BK246; have hcz42_3 : w41.cell? ⟨gb246, 3, none⟩ = some (.string (⟨#[]⟩ : ByteArray)) := bk_ BK246; have hcz42_4 : w41.cell? ⟨gb246, 4, none⟩ = some (.int .i64 0) := bk_ BK246; have hfz42_0 := blk_frozen BK246.out 0; have hfz42_1 := blk_frozen BK246.out 1; have hfz42_2 := blk_frozen BK246.out 2; have hfz42_3 := blk_frozen BK246.out 3; have hfz42_4 := blk_frozen BK246.out 4; have p256 : 0 ≤ (2 : Int) := (by omega); have q256 : 2 < (l1.length : Int) := od_; obtain ⟨ad256, e256, hx256_0⟩ := Kd.at_string HR1.out 2 p256 q256; obtain rfl : ad251 = ad256 := (by injection e256); (try simp only [show (2 : Int).toNat = 2 from rfl, Nat.reduceMul, Nat.reduceEqDiff, Go.Addr.add, ↓reduceIte] at hx256_0); have qi256 : (2 < l1.length) = True := eq_true (by omega); (try rw [show ((2 : Int)).toNat = 2 from rfl] at hx256_0); have hn256_0 : ad251.block ≠ gb246 := Nat.ne_of_lt (Nat.lt_of_lt_of_le (by have := World.block_lt_of_cell? _ _ hx256_0; first | rwa [add_block] at this | exact this) GW246.out); replace hx256_0 := (HB.out.cell (World.block_lt_of_cell? w _ hx256_0)).trans hx256_0; replace hx256_0 := (cell_far (p := ⟨gb246, 3, none⟩) (by first | (rw [add_block]; exact hn256_0) | (show (Addr.add _ _).block ≠ _; rw [add_block]; exact hn256_0) | exact hn256_0) (.string t254)).trans hx256_0; clear hn256_0; replace p256 := eq_true p256; replace q256 := eq_true q256) | (go_at_call 43; (with_reducible refine (script_all.calls k (rdOf ByteArray.empty l1 1) t257 _ A34.out).mono ?_); rintro e w43 ⟨rfl, hb⟩; replace BK246 := Aside0.mk (blk_below (g := gb246) (o := .cells #[.int .i64 a0, .string (rdOf ByteArray.empty l1 0), .string (rdOf ByteArray.empty l1 1), .string t254, .int .i64 0] 28 (0, 0)) (by (with_reducible repeat (first | refine blk_drewN ?_ _ | refine blk_drew ?_ | refine blk_alloc ?_ _)); refine blk_put (cs := #[.int .i64 a0, .string (rdOf ByteArray.empty l1 0), .string (rdOf ByteArray.empty l1 1), .string (⟨#[]⟩ : ByteArray), .int .i64 0]) ?_ 3 _ rfl; (with_reducible repeat (first | refine blk_drewN ?_ _ | refine blk_drew ?_ | refine blk_alloc ?_ _)); exact BK246.out) hb); replace HB := Aside0.mk (below_step blw hb); (try clear hb); have hcz44_0 : w43.cell? ⟨gb246, 0, none⟩ = some (.int .i64 a0) := bk_ BK246; have hcz44_1 : w43.cell? ⟨gb246, 1, none⟩ = some (.string (rdOf ByteArray.empty l1 0)) := bk_ BK246; have hcz44_2 : w43.cell? ⟨gb246, 2, none⟩ = some (.string (rdOf ByteArray.empty l1 1)) := bk_ BK246; have hcz44_3 : w43.cell? ⟨gb246, 3, none⟩ = some (.string t254) := bk_ BK246; have hcz44_4 : w43.cell? ⟨gb246, 4, none⟩ = some (.int .i64 0) := bk_ BK246; have hfz44_0 := blk_frozen BK246.out 0; have hfz44_1 := blk_frozen BK246.out 1; have hfz44_2 := blk_frozen BK246.out 2; have hfz44_3 := blk_frozen BK246.out 3; have hfz44_4 := blk_frozen BK246.out 4))
    refine bodyPost_ret (results_ct rfl _ _ gb246 28 #[.int .i64 a0, .string (rdOf ByteArray.empty l1 0), .string (rdOf ByteArray.empty l1 1), .string t254, .int .i64 0] (0, 0) _ rfl (by (with_reducible repeat (first | refine blk_drewN ?_ _ | refine blk_drew ?_ | refine blk_alloc ?_ _)); refine blk_put (cs := #[.int .i64 a0, .string (rdOf ByteArray.empty l1 0), .string (rdOf ByteArray.empty l1 1), .string t254, .int .i64 0]) ?_ 4 _ rfl; (with_reducible repeat (first | refine blk_drewN ?_ _ | refine blk_drew ?_ | refine blk_alloc ?_ _)); refine blk_put (cs := #[.int .i64 a0, .string (rdOf ByteArray.empty l1 0), .string (rdOf ByteArray.empty l1 1), .string t254, .int .i64 0]) ?_ 3 _ rfl; (with_reducible repeat (first | refine blk_drewN ?_ _ | refine blk_drew ?_ | refine blk_alloc ?_ _)); refine blk_put (cs := #[.int .i64 a0, .string (rdOf ByteArray.empty l1 0), .string (rdOf ByteArray.empty l1 1), .string t254, .int .i64 0]) ?_ 2 _ rfl; (with_reducible repeat (first | refine blk_drewN ?_ _ | refine blk_drew ?_ | refine blk_alloc ?_ _)); refine blk_put (cs := #[.int .i64 a0, .string (rdOf ByteArray.empty l1 0), .string (rdOf ByteArray.empty l1 1), .string t254, .int .i64 0]) ?_ 1 _ rfl; (with_reducible repeat (first | refine blk_drewN ?_ _ | refine blk_drew ?_ | refine blk_alloc ?_ _)); refine blk_put (cs := #[.int .i64 a0, .string (rdOf ByteArray.empty l1 0), .string (rdOf ByteArray.empty l1 1), .string t254, .int .i64 0]) ?_ 0 _ rfl; (with_reducible repeat (first | refine blk_drewN ?_ _ | refine blk_drew ?_ | refine blk_alloc ?_ _)); exact BK246.out) Tryz.underlying28 rfl (by kernel_rfl)) rfl ?_
    exact ⟨by first | rfl | (simp [errW_none, errW_some] <;> rfl) | (simp [*, errW_none, errW_some] <;> rfl), blw⟩
   ·rw [if_neg c33] at H
    have c33b0 := beq_eq_false_iff_ne.mpr c33
    have c33b1 := bne_iff_ne.mpr c33
    replace H := Option.bind_eq_some_iff.mp H
    obtain ⟨t258, A450, H⟩ := H
    try dsimp only at H
    have A45 := Aside0.mk A450
    clear A450
    by_cases c46 : t258 = true
    ·subst c46
     rw [if_pos rfl] at H
     replace H := Option.bind_eq_some_iff.mp H
     obtain ⟨t259, A470, H⟩ := H
     try dsimp only at H
     have A47 := Aside0.mk A470
     clear A470
     simp only [Option.some.injEq, Prod.mk.injEq] at H
     obtain ⟨rfl, rfl, rfl, rfl, rfl, rfl⟩ := H
     go_enter Tryz.func33, Tryz.ntmps33
     try go_wp2_with (first | ((with_reducible refine gate_dst (N := 4) rfl ?_); refine box_event ?hg (N := 4) ?hd (cs := #[.int .i64 0, .string (⟨#[]⟩ : ByteArray), .string (⟨#[]⟩ : ByteArray), .string (⟨#[]⟩ : ByteArray), .int .i64 0]) (t := 28) ?hr ?_; (case hd => rfl); (case hg => rfl); (case hr => first | (go_simp; done) | (go_simp; rfl)); intro gb246 hg w48 hbox hb; have BK246 := Aside0.mk (hbox); have GW246 : Aside0 (w.heap.size ≤ gb246) := gw_ hg; have GE246 : Aside0 (w.heap.size ≤ gb246) := gw_ hg; replace HB := Aside0.mk (below_step blw hb); clear hb hbox hg; have hcz49_0 : w48.cell? ⟨gb246, 0, none⟩ = some (.int .i64 0) := bk_ BK246; have hcz49_1 : w48.cell? ⟨gb246, 1, none⟩ = some (.string (⟨#[]⟩ : ByteArray)) := bk_ BK246; have hcz49_2 : w48.cell? ⟨gb246, 2, none⟩ = some (.string (⟨#[]⟩ : ByteArray)) := bk_ BK246; have hcz49_3 : w48.cell? ⟨gb246, 3, none⟩ = some (.string (⟨#[]⟩ : ByteArray)) := bk_ BK246; have hcz49_4 : w48.cell? ⟨gb246, 4, none⟩ = some (.int .i64 0) := bk_ BK246; have hfz49_0 := blk_frozen BK246.out 0; have hfz49_1 := blk_frozen BK246.out 1; have hfz49_2 := blk_frozen BK246.out 2; have hfz49_3 := blk_frozen BK246.out 3; have hfz49_4 := blk_frozen BK246.out 4))
     have n0_ : Aside0 ((w48.setCell ⟨gb246, 0, none⟩ (.int .i64 a0)).heap[gb246]? = some (.cells #[.int .i64 a0, .string (⟨#[]⟩ : ByteArray), .string (⟨#[]⟩ : ByteArray), .string (⟨#[]⟩ : ByteArray), .int .i64 0] 28 (0, 0))) := ⟨by (with_reducible repeat (first | refine blk_drewN ?_ _ | refine blk_drew ?_ | refine blk_alloc ?_ _)); refine blk_put (cs := #[.int .i64 0, .string (⟨#[]⟩ : ByteArray), .string (⟨#[]⟩ : ByteArray), .string (⟨#[]⟩ : ByteArray), .int .i64 0]) ?_ 0 _ rfl; (with_reducible repeat (first | refine blk_drewN ?_ _ | refine blk_drew ?_ | refine blk_alloc ?_ _)); exact BK246.out⟩
     have n1_ : Aside0 (Below w.heap.size w (w48.setCell ⟨gb246, 0, none⟩ (.int .i64 a0))) := ⟨blw⟩
     (try clear BK246)
     (try clear HB)
     generalize (w48.setCell ⟨gb246, 0, none⟩ (.int .i64 a0)) = w50 at n0_ n1_ ⊢
     have BK246 := n0_
     have HB := n1_
     clear n0_ n1_
     replace BK246 := Aside0.mk (blk_drew BK246.out)
     replace HB := Aside0.mk (below_drew1 HB.out)
     have p251 : 0 ≤ (0 : Int) := (by omega)
     have q251 : 0 < (l1.length : Int) := od_
     obtain ⟨ad251, e251, hx251_0⟩ := Kd.at_string HR1.out 0 p251 q251
     have hw251_0 := hx251_0
     (try rw [show ((0 : Int)).toNat = 0 from rfl] at hw251_0)
     (try rw [show 0 * 1 = 0 from rfl] at hw251_0)
     (try rw [Addr.add_zero'] at hw251_0)
     cases e251
     have qi251 : (0 < l1.length) = True := eq_true (by omega)
     (try rw [show ((0 : Int)).toNat = 0 from rfl] at hx251_0)
     (try rw [Addr.add_zero'] at hx251_0)
     replace hx251_0 := (HB.out.cell (World.block_lt_of_cell? w _ hx251_0)).trans hx251_0
     replace p251 := eq_true p251
     replace q251 := eq_true q251
     have p252 : 0 ≤ (1 : Int) := (by omega)
     have q252 : 1 < (l1.length : Int) := od_
     obtain ⟨ad252, e252, hx252_0⟩ := Kd.at_string HR1.out 1 p252 q252
     have hw252_0 := hx252_0
     (try rw [show ((1 : Int)).toNat = 1 from rfl] at hw252_0)
     (try rw [show 1 * 1 = 1 from rfl] at hw252_0)
     (try simp only [Nat.reduceMul, Nat.reduceEqDiff, Go.Addr.add, ↓reduceIte] at hw252_0)
     obtain rfl : ad251 = ad252 := (by injection e252)
     (try simp only [show (1 : Int).toNat = 1 from rfl, Nat.reduceMul, Nat.reduceEqDiff, Go.Addr.add, ↓reduceIte] at hx252_0)
     have qi252 : (1 < l1.length) = True := eq_true (by omega)
     (try rw [show ((1 : Int)).toNat = 1 from rfl] at hx252_0)
     replace hx252_0 := (HB.out.cell (World.block_lt_of_cell? w _ hx252_0)).trans hx252_0
     replace p252 := eq_true p252
     replace q252 := eq_true q252
     refine start_ (n := 10) (S := fun w' => w'.cell? ad251 = some (.string (rdOf ByteArray.empty l1 0)) ∧ w'.cell? ⟨ad251.block, ad251.off + 1, none⟩ = some (.string (rdOf ByteArray.empty l1 1))) (ds := []) (ba 10 0) (by kernel_rfl) rfl rfl ⟨hc_ hw251_0, hc_ hw252_0⟩ (fun hHeld => ?_); refine with_tabW script_step.tab9 script_step.bits9 (fun HT_ HW_ => ?_)
     generalize w50.drew = w51 at BK246 HB hx251_0 hx252_0 hHeld ⊢
     refine pu_ 0 30 1 ?_
     refine pu_ 1 31 3 ?_
     refine pu_ 3 33 11 ?_
     refine pu_ 4 34 27 ?_
     refine tk_ 2 32 31 hHeld ?_
     refine pu_ 6 36 95 ?_
     refine tk_ 5 35 127 hHeld ?_
     refine one1 7 none 255 (fun K hK => ?_)
     have hs52 : w51.cell? ⟨gb246, 1, none⟩ = some (.string (⟨#[]⟩ : ByteArray)) := bk_ BK246
     have hfs52 := blk_frozen BK246.out 1
     refine skip_ (w1 := ?_) (by rfl) rfl ?_ ?_
     rotate_left
     ·go_simp
      rfl
     refine hK.out _ _ ⟨((cell_far (p := ⟨gb246, _, none⟩) (by first | exact Nat.ne_of_lt (Nat.lt_of_lt_of_le (by have := World.block_lt_of_cell? _ _ hw251_0; first | rwa [add_block] at this | exact this) GW246.out) | (rw [add_block]; exact Nat.ne_of_lt (Nat.lt_of_lt_of_le (by have := World.block_lt_of_cell? _ _ hw251_0; first | rwa [add_block] at this | exact this) GW246.out)) | (show (Addr.add _ _).block ≠ _; rw [add_block]; exact Nat.ne_of_lt (Nat.lt_of_lt_of_le (by have := World.block_lt_of_cell? _ _ hw251_0; first | rwa [add_block] at this | exact this) GW246.out)) | (dsimp only; exact Nat.ne_of_lt (Nat.lt_of_lt_of_le (by have := World.block_lt_of_cell? _ _ hw251_0; first | rwa [add_block] at this | exact this) GW246.out))) _).trans (hHeld.1)), ((cell_far (p := ⟨gb246, _, none⟩) (by first | exact Nat.ne_of_lt (Nat.lt_of_lt_of_le (by have := World.block_lt_of_cell? _ _ hw252_0; first | rwa [add_block] at this | exact this) GW246.out) | (rw [add_block]; exact Nat.ne_of_lt (Nat.lt_of_lt_of_le (by have := World.block_lt_of_cell? _ _ hw252_0; first | rwa [add_block] at this | exact this) GW246.out)) | (show (Addr.add _ _).block ≠ _; rw [add_block]; exact Nat.ne_of_lt (Nat.lt_of_lt_of_le (by have := World.block_lt_of_cell? _ _ hw252_0; first | rwa [add_block] at this | exact this) GW246.out)) | (dsimp only; exact Nat.ne_of_lt (Nat.lt_of_lt_of_le (by have := World.block_lt_of_cell? _ _ hw252_0; first | rwa [add_block] at this | exact this) GW246.out))) _).trans (hHeld.2))⟩ (fun hHeld => ?_)
     clear hK K
     refine pu_ 8 37 511 ?_
     refine one1 9 none 1023 (fun K hK => ?_)
     have hs53 : w51.cell? ⟨gb246, 2, none⟩ = some (.string (⟨#[]⟩ : ByteArray)) := bk_ BK246
     have hfs53 := blk_frozen BK246.out 2
     refine skip_ (w1 := ?_) (by rfl) rfl ?_ ?_
     rotate_left
     ·go_simp
      rfl
     refine hK.out _ _ ⟨((cell_far (p := ⟨gb246, _, none⟩) (by first | exact Nat.ne_of_lt (Nat.lt_of_lt_of_le (by have := World.block_lt_of_cell? _ _ hw251_0; first | rwa [add_block] at this | exact this) GW246.out) | (rw [add_block]; exact Nat.ne_of_lt (Nat.lt_of_lt_of_le (by have := World.block_lt_of_cell? _ _ hw251_0; first | rwa [add_block] at this | exact this) GW246.out)) | (show (Addr.add _ _).block ≠ _; rw [add_block]; exact Nat.ne_of_lt (Nat.lt_of_lt_of_le (by have := World.block_lt_of_cell? _ _ hw251_0; first | rwa [add_block] at this | exact this) GW246.out)) | (dsimp only; exact Nat.ne_of_lt (Nat.lt_of_lt_of_le (by have := World.block_lt_of_cell? _ _ hw251_0; first | rwa [add_block] at this | exact this) GW246.out))) _).trans (hHeld.1)), ((cell_far (p := ⟨gb246, _, none⟩) (by first | exact Nat.ne_of_lt (Nat.lt_of_lt_of_le (by have := World.block_lt_of_cell? _ _ hw252_0; first | rwa [add_block] at this | exact this) GW246.out) | (rw [add_block]; exact Nat.ne_of_lt (Nat.lt_of_lt_of_le (by have := World.block_lt_of_cell? _ _ hw252_0; first | rwa [add_block] at this | exact this) GW246.out)) | (show (Addr.add _ _).block ≠ _; rw [add_block]; exact Nat.ne_of_lt (Nat.lt_of_lt_of_le (by have := World.block_lt_of_cell? _ _ hw252_0; first | rwa [add_block] at this | exact this) GW246.out)) | (dsimp only; exact Nat.ne_of_lt (Nat.lt_of_lt_of_le (by have := World.block_lt_of_cell? _ _ hw252_0; first | rwa [add_block] at this | exact this) GW246.out))) _).trans (hHeld.2))⟩ (fun hHeld => ?_)
     clear hK K
     refine done_ (done_of HT_.out (by kernel_rfl)) ?_
     have p253 : 0 ≤ (2 : Int) := (by omega)
     have q253 : 2 < (l1.length : Int) := od_
     obtain ⟨ad253, e253, hx253_0⟩ := Kd.at_string HR1.out 2 p253 q253
     obtain rfl : ad251 = ad253 := (by injection e253)
     (try simp only [show (2 : Int).toNat = 2 from rfl, Nat.reduceMul, Nat.reduceEqDiff, Go.Addr.add, ↓reduceIte] at hx253_0)
     have qi253 : (2 < l1.length) = True := eq_true (by omega)
     (try rw [show ((2 : Int)).toNat = 2 from rfl] at hx253_0)
     have hn253_0 : ad251.block ≠ gb246 := Nat.ne_of_lt (Nat.lt_of_lt_of_le (by have := World.block_lt_of_cell? _ _ hx253_0; first | rwa [add_block] at this | exact this) GW246.out)
     have hn253_1 : ad251.block ≠ gb246 := Nat.ne_of_lt (Nat.lt_of_lt_of_le (by have := World.block_lt_of_cell? _ _ hx253_0; first | rwa [add_block] at this | exact this) GW246.out)
     replace hx253_0 := (HB.out.cell (World.block_lt_of_cell? w _ hx253_0)).trans hx253_0
     replace hx253_0 := (cell_far (p := ⟨gb246, 1, none⟩) (by first | (rw [add_block]; exact hn253_0) | (show (Addr.add _ _).block ≠ _; rw [add_block]; exact hn253_0) | exact hn253_0) (.string (rdOf ByteArray.empty l1 0))).trans hx253_0
     replace hx253_0 := (cell_far (p := ⟨gb246, 2, none⟩) (by first | (rw [add_block]; exact hn253_1) | (show (Addr.add _ _).block ≠ _; rw [add_block]; exact hn253_1) | exact hn253_1) (.string (rdOf ByteArray.empty l1 1))).trans hx253_0
     clear hn253_0
     clear hn253_1
     replace p253 := eq_true p253
     replace q253 := eq_true q253
     try go_wp2_with (first | ((with_reducible refine gc 5 rfl ?_); refine cl_ (some 42) Tryz.func5 (script_Unescape.calls k (rdOf ByteArray.empty l1 2) t254 true _ A22.out) ?_; rintro w54 hb; replace BK246 := Aside0.mk (blk_below (g := gb246) (o := .cells #[.int .i64 a0, .string (rdOf ByteArray.empty l1 0), .string (rdOf ByteArray.empty l1 1), .string (⟨#[]⟩ : ByteArray), .int .i64 0] 28 (0, 0)) (by (with_reducible repeat (first | refine blk_drewN ?_ _ | refine blk_drew ?_ | refine blk_alloc ?_ _)); refine blk_put (cs := #[.int .i64 a0, .string (rdOf ByteArray.empty l1 0), .string (⟨#[]⟩ : ByteArray), .string (⟨#[]⟩ : ByteArray), .int .i64 0]) ?_ 2 _ rfl; (with_reducible repeat (first | refine blk_drewN ?_ _ | refine blk_drew ?_ | refine blk_alloc ?_ _)); refine blk_put (cs := #[.int .i64 a0, .string (⟨#[]⟩ : ByteArray), .string (⟨#[]⟩ : ByteArray), .string (⟨#[]⟩ : ByteArray), .int .i64 0]) ?_ 1 _ rfl; (with_reducible repeat (first | refine blk_drewN ?_ _ | refine blk_drew ?_ | refine blk_alloc ?_ _)); exact BK246.out) hb); replace HB := Aside0.mk (below_step blw hb); (try clear hb); have hcz55_0 : w54.cell? ⟨gb246, 0, none⟩ = some (.int .i64 a0) := bk_ BK246; have hcz55_1 : w54.cell? ⟨gb246, 1, none⟩ = some (.string (rdOf ByteArray.empty l1 0)) := bk_ BK246; have hcz55_2 : w54.cell? ⟨gb246, 2, none⟩ = some (.string (rdOf ByteArray.empty l1 1)) := bk_ BK246; have hcz55_3 : w54.cell? ⟨gb246, 3, none⟩ = some (.string (⟨#[]⟩ : ByteArray)) := bk_ BK246; have hcz55_4 : w54.cell? ⟨gb246, 4, none⟩ = some (.int .i64 0) := bk_ BK246; have hfz55_0 := blk_frozen BK246.out 0; have hfz55_1 := blk_frozen BK246.out 1; have hfz55_2 := blk_frozen BK246.out 2; have hfz55_3 := blk_frozen BK246.out 3; have hfz55_4 := blk_frozen BK246.out 4; have p256 : 0 ≤ (2 : Int) := (by omega); have q256 : 2 < (l1.length : Int) := od_; obtain ⟨ad256, e256, hx256_0⟩ := Kd.at_string HR1.out 2 p256 q256; obtain rfl : ad251 = ad256 := (by injection e256); (try simp only [show (2 : Int).toNat = 2 from rfl, Nat.reduceMul, Nat.reduceEqDiff, Go.Addr.add, ↓reduceIte] at hx256_0); have qi256 : (2 < l1.length) = True := eq_true (by omega); (try rw [show ((2 : Int)).toNat = 2 from rfl] at hx256_0); have hn256_0 : ad251.block ≠ gb246 := Nat.ne_of_lt (Nat.lt_of_lt_of_le (by have := World.block_lt_of_cell? _ _ hx256_0; first | rwa [add_block] at this | exact this) GW246.out); replace hx256_0 := (HB.out.cell (World.block_lt_of_cell? w _ hx256_0)).trans hx256_0; replace hx256_0 := (cell_far (p := ⟨gb246, 3, none⟩) (by first | (rw [add_block]; exact hn256_0) | (show (Addr.add _ _).block ≠ _; rw [add_block]; exact hn256_0) | exact hn256_0) (.string t254)).trans hx256_0; clear hn256_0; replace p256 := eq_true p256; replace q256 := eq_true q256) | (go_at_call 42; (with_reducible refine (script_address.calls k (rdOf ByteArray.empty l1 0) true _ A45.out).mono ?_); rintro e w56 ⟨rfl, hb⟩; replace BK246 := Aside0.mk (blk_below (g := gb246) (o := .cells #[.int .i64 a0, .string (rdOf ByteArray.empty l1 0), .string (rdOf ByteArray.empty l1 1), .string t254, .int .i64 0] 28 (0, 0)) (by (with_reducible repeat (first | refine blk_drewN ?_ _ | refine blk_drew ?_ | refine blk_alloc ?_ _)); refine blk_put (cs := #[.int .i64 a0, .string (rdOf ByteArray.empty l1 0), .string (rdOf ByteArray.empty l1 1), .string (⟨#[]⟩ : ByteArray), .int .i64 0]) ?_ 3 _ rfl; (with_reducible repeat (first | refine blk_drewN ?_ _ | refine blk_drew ?_ | refine blk_alloc ?_ _)); exact BK246.out) hb); replace HB := Aside0.mk (below_step blw hb); (try clear hb); have hcz57_0 : w56.cell? ⟨gb246, 0, none⟩ = some (.int .i64 a0) := bk_ BK246; have hcz57_1 : w56.cell? ⟨gb246, 1, none⟩ = some (.string (rdOf ByteArray.empty l1 0)) := bk_ BK246; have hcz57_2 : w56.cell? ⟨gb246, 2, none⟩ = some (.string (rdOf ByteArray.empty l1 1)) := bk_ BK246; have hcz57_3 : w56.cell? ⟨gb246, 3, none⟩ = some (.string t254) := bk_ BK246; have hcz57_4 : w56.cell? ⟨gb246, 4, none⟩ = some (.int .i64 0) := bk_ BK246; have hfz57_0 := blk_frozen BK246.out 0; have hfz57_1 := blk_frozen BK246.out 1; have hfz57_2 := blk_frozen BK246.out 2; have hfz57_3 := blk_frozen BK246.out 3; have hfz57_4 := blk_frozen BK246.out 4) | (go_at_call 43; (with_reducible refine (script_all.calls k (rdOf ByteArray.empty l1 1) t259 _ A47.out).mono ?_); rintro e w58 ⟨rfl, hb⟩; replace BK246 := Aside0.mk (blk_below (g := gb246) (o := .cells #[.int .i64 a0, .string (rdOf ByteArray.empty l1 0), .string (rdOf ByteArray.empty l1 1), .string t254, .int .i64 0] 28 (0, 0)) (bkw BK246) hb); replace HB := Aside0.mk (below_step blw hb); (try clear hb); have hcz59_0 : w58.cell? ⟨gb246, 0, none⟩ = some (.int .i64 a0) := bk_ BK246; have hcz59_1 : w58.cell? ⟨gb246, 1, none⟩ = some (.string (rdOf ByteArray.empty l1 0)) := bk_ BK246; have hcz59_2 : w58.cell? ⟨gb246, 2, none⟩ = some (.string (rdOf ByteArray.empty l1 1)) := bk_ BK246; have hcz59_3 : w58.cell? ⟨gb246, 3, none⟩ = some (.string t254) := bk_ BK246; have hcz59_4 : w58.cell? ⟨gb246, 4, none⟩ = some (.int .i64 0) := bk_ BK246; have hfz59_0 := blk_frozen BK246.out 0; have hfz59_1 := blk_frozen BK246.out 1; have hfz59_2 := blk_frozen BK246.out 2; have hfz59_3 := blk_frozen BK246.out 3; have hfz59_4 := blk_frozen BK246.out 4))
     refine bodyPost_ret (results_ct rfl _ _ gb246 28 #[.int .i64 a0, .string (rdOf ByteArray.empty l1 0), .string (rdOf ByteArray.empty l1 1), .string t254, .int .i64 0] (0, 0) _ rfl (by (with_reducible repeat (first | refine blk_drewN ?_ _ | refine blk_drew ?_ | refine blk_alloc ?_ _)); refine blk_put (cs := #[.int .i64 a0, .string (rdOf ByteArray.empty l1 0), .string (rdOf ByteArray.empty l1 1), .string t254, .int .i64 0]) ?_ 4 _ rfl; (with_reducible repeat (first | refine blk_drewN ?_ _ | refine blk_drew ?_ | refine blk_alloc ?_ _)); refine blk_put (cs := #[.int .i64 a0, .string (rdOf ByteArray.empty l1 0), .string (rdOf ByteArray.empty l1 1), .string t254, .int .i64 0]) ?_ 3 _ rfl; (with_reducible repeat (first | refine blk_drewN ?_ _ | refine blk_drew ?_ | refine blk_alloc ?_ _)); refine blk_put (cs := #[.int .i64 a0, .string (rdOf ByteArray.empty l1 0), .string (rdOf ByteArray.empty l1 1), .string t254, .int .i64 0]) ?_ 2 _ rfl; (with_reducible repeat (first | refine blk_drewN ?_ _ | refine blk_drew ?_ | refine blk_alloc ?_ _)); refine blk_put (cs := #[.int .i64 a0, .string (rdOf ByteArray.empty l1 0), .string (rdOf ByteArray.empty l1 1), .string t254, .int .i64 0]) ?_ 1 _ rfl; (with_reducible repeat (first | refine blk_drewN ?_ _ | refine blk_drew ?_ | refine blk_alloc ?_ _)); refine blk_put (cs := #[.int .i64 a0, .string (rdOf ByteArray.empty l1 0), .string (rdOf ByteArray.empty l1 1), .string t254, .int .i64 0]) ?_ 0 _ rfl; (with_reducible repeat (first | refine blk_drewN ?_ _ | refine blk_drew ?_ | refine blk_alloc ?_ _)); exact BK246.out) Tryz.underlying28 rfl (by kernel_rfl)) rfl ?_
     exact ⟨by first | rfl | (simp [errW_none, errW_some] <;> rfl) | (simp [*, errW_none, errW_some] <;> rfl), blw⟩
    ·replace c46 := Bool.eq_false_iff.mpr c46
     subst c46
     rw [if_neg nft] at H
     simp only [Option.some.injEq, Prod.mk.injEq] at H
     obtain ⟨rfl, rfl, rfl, rfl, rfl, rfl⟩ := H
     go_enter Tryz.func33, Tryz.ntmps33
     try go_wp2_with (first | ((with_reducible refine gate_dst (N := 4) rfl ?_); refine box_event ?hg (N := 4) ?hd (cs := #[.int .i64 0, .string (⟨#[]⟩ : ByteArray), .string (⟨#[]⟩ : ByteArray), .string (⟨#[]⟩ : ByteArray), .int .i64 0]) (t := 28) ?hr ?_; (case hd => rfl); (case hg => rfl); (case hr => first | (go_simp; done) | (go_simp; rfl)); intro gb246 hg w60 hbox hb; have BK246 := Aside0.mk (hbox); have GW246 : Aside0 (w.heap.size ≤ gb246) := gw_ hg; have GE246 : Aside0 (w.heap.size ≤ gb246) := gw_ hg; replace HB := Aside0.mk (below_step blw hb); clear hb hbox hg; have hcz61_0 : w60.cell? ⟨gb246, 0, none⟩ = some (.int .i64 0) := bk_ BK246; have hcz61_1 : w60.cell? ⟨gb246, 1, none⟩ = some (.string (⟨#[]⟩ : ByteArray)) := bk_ BK246; have hcz61_2 : w60.cell? ⟨gb246, 2, none⟩ = some (.string (⟨#[]⟩ : ByteArray)) := bk_ BK246; have hcz61_3 : w60.cell? ⟨gb246, 3, none⟩ = some (.string (⟨#[]⟩ : ByteArray)) := bk_ BK246; have hcz61_4 : w60.cell? ⟨gb246, 4, none⟩ = some (.int .i64 0) := bk_ BK246; have hfz61_0 := blk_frozen BK246.out 0; have hfz61_1 := blk_frozen BK246.out 1; have hfz61_2 := blk_frozen BK246.out 2; have hfz61_3 := blk_frozen BK246.out 3; have hfz61_4 := blk_frozen BK246.out 4))
     have n0_ : Aside0 ((w60.setCell ⟨gb246, 0, none⟩ (.int .i64 a0)).heap[gb246]? = some (.cells #[.int .i64 a0, .string (⟨#[]⟩ : ByteArray), .string (⟨#[]⟩ : ByteArray), .string (⟨#[]⟩ : ByteArray), .int .i64 0] 28 (0, 0))) := ⟨by (with_reducible repeat (first | refine blk_drewN ?_ _ | refine blk_drew ?_ | refine blk_alloc ?_ _)); refine blk_put (cs := #[.int .i64 0, .string (⟨#[]⟩ : ByteArray), .string (⟨#[]⟩ : ByteArray), .string (⟨#[]⟩ : ByteArray), .int .i64 0]) ?_ 0 _ rfl; (with_reducible repeat (first | refine blk_drewN ?_ _ | refine blk_drew ?_ | refine blk_alloc ?_ _)); exact BK246.out⟩
     have n1_ : Aside0 (Below w.heap.size w (w60.setCell ⟨gb246, 0, none⟩ (.int .i64 a0))) := ⟨blw⟩
     (try clear BK246)
     (try clear HB)
     generalize (w60.setCell ⟨gb246, 0, none⟩ (.int .i64 a0)) = w62 at n0_ n1_ ⊢
     have BK246 := n0_
     have HB := n1_
     clear n0_ n1_
     replace BK246 := Aside0.mk (blk_drew BK246.out)
     replace HB := Aside0.mk (below_drew1 HB.out)
     have p251 : 0 ≤ (0 : Int) := (by omega)
     have q251 : 0 < (l1.length : Int) := od_
     obtain ⟨ad251, e251, hx251_0⟩ := Kd.at_string HR1.out 0 p251 q251
     have hw251_0 := hx251_0
     (try rw [show ((0 : Int)).toNat = 0 from rfl] at hw251_0)
     (try rw [show 0 * 1 = 0 from rfl] at hw251_0)
     (try rw [Addr.add_zero'] at hw251_0)
     cases e251
     have qi251 : (0 < l1.length) = True := eq_true (by omega)
     (try rw [show ((0 : Int)).toNat = 0 from rfl] at hx251_0)
     (try rw [Addr.add_zero'] at hx251_0)
     replace hx251_0 := (HB.out.cell (World.block_lt_of_cell? w _ hx251_0)).trans hx251_0
     replace p251 := eq_true p251
     replace q251 := eq_true q251
     have p252 : 0 ≤ (1 : Int) := (by omega)
     have q252 : 1 < (l1.length : Int) := od_
     obtain ⟨ad252, e252, hx252_0⟩ := Kd.at_string HR1.out 1 p252 q252
     have hw252_0 := hx252_0
     (try rw [show ((1 : Int)).toNat = 1 from rfl] at hw252_0)
     (try rw [show 1 * 1 = 1 from rfl] at hw252_0)
     (try simp only [Nat.reduceMul, Nat.reduceEqDiff, Go.Addr.add, ↓reduceIte] at hw252_0)
     obtain rfl : ad251 = ad252 := (by injection e252)
     (try simp only [show (1 : Int).toNat = 1 from rfl, Nat.reduceMul, Nat.reduceEqDiff, Go.Addr.add, ↓reduceIte] at hx252_0)
     have qi252 : (1 < l1.length) = True := eq_true (by omega)
     (try rw [show ((1 : Int)).toNat = 1 from rfl] at hx252_0)
     replace hx252_0 := (HB.out.cell (World.block_lt_of_cell? w _ hx252_0)).trans hx252_0
     replace p252 := eq_true p252
     replace q252 := eq_true q252
     refine start_ (n := 10) (S := fun w' => w'.cell? ad251 = some (.string (rdOf ByteArray.empty l1 0)) ∧ w'.cell? ⟨ad251.block, ad251.off + 1, none⟩ = some (.string (rdOf ByteArray.empty l1 1))) (ds := []) (ba 10 0) (by kernel_rfl) rfl rfl ⟨hc_ hw251_0, hc_ hw252_0⟩ (fun hHeld => ?_); refine with_tabW script_step.tab9 script_step.bits9 (fun HT_ HW_ => ?_)
     generalize w62.drew = w63 at BK246 HB hx251_0 hx252_0 hHeld ⊢
     refine pu_ 0 30 1 ?_
     refine pu_ 1 31 3 ?_
     refine pu_ 3 33 11 ?_
     refine pu_ 4 34 27 ?_
     refine tk_ 2 32 31 hHeld ?_
     refine pu_ 6 36 95 ?_
     refine tk_ 5 35 127 hHeld ?_
     refine one1 7 none 255 (fun K hK => ?_)
     have hs64 : w63.cell? ⟨gb246, 1, none⟩ = some (.string (⟨#[]⟩ : ByteArray)) := bk_ BK246
     have hfs64 := blk_frozen BK246.out 1
     refine skip_ (w1 := ?_) (by rfl) rfl ?_ ?_
     rotate_left
     ·go_simp
      rfl
     refine hK.out _ _ ⟨((cell_far (p := ⟨gb246, _, none⟩) (by first | exact Nat.ne_of_lt (Nat.lt_of_lt_of_le (by have := World.block_lt_of_cell? _ _ hw251_0; first | rwa [add_block] at this | exact this) GW246.out) | (rw [add_block]; exact Nat.ne_of_lt (Nat.lt_of_lt_of_le (by have := World.block_lt_of_cell? _ _ hw251_0; first | rwa [add_block] at this | exact this) GW246.out)) | (show (Addr.add _ _).block ≠ _; rw [add_block]; exact Nat.ne_of_lt (Nat.lt_of_lt_of_le (by have := World.block_lt_of_cell? _ _ hw251_0; first | rwa [add_block] at this | exact this) GW246.out)) | (dsimp only; exact Nat.ne_of_lt (Nat.lt_of_lt_of_le (by have := World.block_lt_of_cell? _ _ hw251_0; first | rwa [add_block] at this | exact this) GW246.out))) _).trans (hHeld.1)), ((cell_far (p := ⟨gb246, _, none⟩) (by first | exact Nat.ne_of_lt (Nat.lt_of_lt_of_le (by have := World.block_lt_of_cell? _ _ hw252_0; first | rwa [add_block] at this | exact this) GW246.out) | (rw [add_block]; exact Nat.ne_of_lt (Nat.lt_of_lt_of_le (by have := World.block_lt_of_cell? _ _ hw252_0; first | rwa [add_block] at this | exact this) GW246.out)) | (show (Addr.add _ _).block ≠ _; rw [add_block]; exact Nat.ne_of_lt (Nat.lt_of_lt_of_le (by have := World.block_lt_of_cell? _ _ hw252_0; first | rwa [add_block] at this | exact this) GW246.out)) | (dsimp only; exact Nat.ne_of_lt (Nat.lt_of_lt_of_le (by have := World.block_lt_of_cell? _ _ hw252_0; first | rwa [add_block] at this | exact this) GW246.out))) _).trans (hHeld.2))⟩ (fun hHeld => ?_)
     clear hK K
     refine pu_ 8 37 511 ?_
     refine one1 9 none 1023 (fun K hK => ?_)
     have hs65 : w63.cell? ⟨gb246, 2, none⟩ = some (.string (⟨#[]⟩ : ByteArray)) := bk_ BK246
     have hfs65 := blk_frozen BK246.out 2
     refine skip_ (w1 := ?_) (by rfl) rfl ?_ ?_
     rotate_left
     ·go_simp
      rfl
     refine hK.out _ _ ⟨((cell_far (p := ⟨gb246, _, none⟩) (by first | exact Nat.ne_of_lt (Nat.lt_of_lt_of_le (by have := World.block_lt_of_cell? _ _ hw251_0; first | rwa [add_block] at this | exact this) GW246.out) | (rw [add_block]; exact Nat.ne_of_lt (Nat.lt_of_lt_of_le (by have := World.block_lt_of_cell? _ _ hw251_0; first | rwa [add_block] at this | exact this) GW246.out)) | (show (Addr.add _ _).block ≠ _; rw [add_block]; exact Nat.ne_of_lt (Nat.lt_of_lt_of_le (by have := World.block_lt_of_cell? _ _ hw251_0; first | rwa [add_block] at this | exact this) GW246.out)) | (dsimp only; exact Nat.ne_of_lt (Nat.lt_of_lt_of_le (by have := World.block_lt_of_cell? _ _ hw251_0; first | rwa [add_block] at this | exact this) GW246.out))) _).trans (hHeld.1)), ((cell_far (p := ⟨gb246, _, none⟩) (by first | exact Nat.ne_of_lt (Nat.lt_of_lt_of_le (by have := World.block_lt_of_cell? _ _ hw252_0; first | rwa [add_block] at this | exact this) GW246.out) | (rw [add_block]; exact Nat.ne_of_lt (Nat.lt_of_lt_of_le (by have := World.block_lt_of_cell? _ _ hw252_0; first | rwa [add_block] at this | exact this) GW246.out)) | (show (Addr.add _ _).block ≠ _; rw [add_block]; exact Nat.ne_of_lt (Nat.lt_of_lt_of_le (by have := World.block_lt_of_cell? _ _ hw252_0; first | rwa [add_block] at this | exact this) GW246.out)) | (dsimp only; exact Nat.ne_of_lt (Nat.lt_of_lt_of_le (by have := World.block_lt_of_cell? _ _ hw252_0; first | rwa [add_block] at this | exact this) GW246.out))) _).trans (hHeld.2))⟩ (fun hHeld => ?_)
     clear hK K
     refine done_ (done_of HT_.out (by kernel_rfl)) ?_
     have p253 : 0 ≤ (2 : Int) := (by omega)
     have q253 : 2 < (l1.length : Int) := od_
     obtain ⟨ad253, e253, hx253_0⟩ := Kd.at_string HR1.out 2 p253 q253
     obtain rfl : ad251 = ad253 := (by injection e253)
     (try simp only [show (2 : Int).toNat = 2 from rfl, Nat.reduceMul, Nat.reduceEqDiff, Go.Addr.add, ↓reduceIte] at hx253_0)
     have qi253 : (2 < l1.length) = True := eq_true (by omega)
     (try rw [show ((2 : Int)).toNat = 2 from rfl] at hx253_0)
     have hn253_0 : ad251.block ≠ gb246 := Nat.ne_of_lt (Nat.lt_of_lt_of_le (by have := World.block_lt_of_cell? _ _ hx253_0; first | rwa [add_block] at this | exact this) GW246.out)
     have hn253_1 : ad251.block ≠ gb246 := Nat.ne_of_lt (Nat.lt_of_lt_of_le (by have := World.block_lt_of_cell? _ _ hx253_0; first | rwa [add_block] at this | exact this) GW246.out)
     replace hx253_0 := (HB.out.cell (World.block_lt_of_cell? w _ hx253_0)).trans hx253_0
     replace hx253_0 := (cell_far (p := ⟨gb246, 1, none⟩) (by first | (rw [add_block]; exact hn253_0) | (show (Addr.add _ _).block ≠ _; rw [add_block]; exact hn253_0) | exact hn253_0) (.string (rdOf ByteArray.empty l1 0))).trans hx253_0
     replace hx253_0 := (cell_far (p := ⟨gb246, 2, none⟩) (by first | (rw [add_block]; exact hn253_1) | (show (Addr.add _ _).block ≠ _; rw [add_block]; exact hn253_1) | exact hn253_1) (.string (rdOf ByteArray.empty l1 1))).trans hx253_0
     clear hn253_0
     clear hn253_1
     replace p253 := eq_true p253
     replace q253 := eq_true q253
     try go_wp2_with (first | ((with_reducible refine gc 5 rfl ?_); refine cl_ (some 42) Tryz.func5 (script_Unescape.calls k (rdOf ByteArray.empty l1 2) t254 true _ A22.out) ?_; rintro w66 hb; replace BK246 := Aside0.mk (blk_below (g := gb246) (o := .cells #[.int .i64 a0, .string (rdOf ByteArray.empty l1 0), .string (rdOf ByteArray.empty l1 1), .string (⟨#[]⟩ : ByteArray), .int .i64 0] 28 (0, 0)) (by (with_reducible repeat (first | refine blk_drewN ?_ _ | refine blk_drew ?_ | refine blk_alloc ?_ _)); refine blk_put (cs := #[.int .i64 a0, .string (rdOf ByteArray.empty l1 0), .string (⟨#[]⟩ : ByteArray), .string (⟨#[]⟩ : ByteArray), .int .i64 0]) ?_ 2 _ rfl; (with_reducible repeat (first | refine blk_drewN ?_ _ | refine blk_drew ?_ | refine blk_alloc ?_ _)); refine blk_put (cs := #[.int .i64 a0, .string (⟨#[]⟩ : ByteArray), .string (⟨#[]⟩ : ByteArray), .string (⟨#[]⟩ : ByteArray), .int .i64 0]) ?_ 1 _ rfl; (with_reducible repeat (first | refine blk_drewN ?_ _ | refine blk_drew ?_ | refine blk_alloc ?_ _)); exact BK246.out) hb); replace HB := Aside0.mk (below_step blw hb); (try clear hb); have hcz67_0 : w66.cell? ⟨gb246, 0, none⟩ = some (.int .i64 a0) := bk_ BK246; have hcz67_1 : w66.cell? ⟨gb246, 1, none⟩ = some (.string (rdOf ByteArray.empty l1 0)) := bk_ BK246; have hcz67_2 : w66.cell? ⟨gb246, 2, none⟩ = some (.string (rdOf ByteArray.empty l1 1)) := bk_ BK246; have hcz67_3 : w66.cell? ⟨gb246, 3, none⟩ = some (.string (⟨#[]⟩ : ByteArray)) := bk_ BK246; have hcz67_4 : w66.cell? ⟨gb246, 4, none⟩ = some (.int .i64 0) := bk_ BK246; have hfz67_0 := blk_frozen BK246.out 0; have hfz67_1 := blk_frozen BK246.out 1; have hfz67_2 := blk_frozen BK246.out 2; have hfz67_3 := blk_frozen BK246.out 3; have hfz67_4 := blk_frozen BK246.out 4; have p256 : 0 ≤ (2 : Int) := (by omega); have q256 : 2 < (l1.length : Int) := od_; obtain ⟨ad256, e256, hx256_0⟩ := Kd.at_string HR1.out 2 p256 q256; obtain rfl : ad251 = ad256 := (by injection e256); (try simp only [show (2 : Int).toNat = 2 from rfl, Nat.reduceMul, Nat.reduceEqDiff, Go.Addr.add, ↓reduceIte] at hx256_0); have qi256 : (2 < l1.length) = True := eq_true (by omega); (try rw [show ((2 : Int)).toNat = 2 from rfl] at hx256_0); have hn256_0 : ad251.block ≠ gb246 := Nat.ne_of_lt (Nat.lt_of_lt_of_le (by have := World.block_lt_of_cell? _ _ hx256_0; first | rwa [add_block] at this | exact this) GW246.out); replace hx256_0 := (HB.out.cell (World.block_lt_of_cell? w _ hx256_0)).trans hx256_0; replace hx256_0 := (cell_far (p := ⟨gb246, 3, none⟩) (by first | (rw [add_block]; exact hn256_0) | (show (Addr.add _ _).block ≠ _; rw [add_block]; exact hn256_0) | exact hn256_0) (.string t254)).trans hx256_0; clear hn256_0; replace p256 := eq_true p256; replace q256 := eq_true q256) | (go_at_call 42; (with_reducible refine (script_address.calls k (rdOf ByteArray.empty l1 0) false _ A45.out).mono ?_); rintro e w68 ⟨rfl, hb⟩; replace BK246 := Aside0.mk (blk_below (g := gb246) (o := .cells #[.int .i64 a0, .string (rdOf ByteArray.empty l1 0), .string (rdOf ByteArray.empty l1 1), .string t254, .int .i64 0] 28 (0, 0)) (by (with_reducible repeat (first | refine blk_drewN ?_ _ | refine blk_drew ?_ | refine blk_alloc ?_ _)); refine blk_put (cs := #[.int .i64 a0, .string (rdOf ByteArray.empty l1 0), .string (rdOf ByteArray.empty l1 1), .string (⟨#[]⟩ : ByteArray), .int .i64 0]) ?_ 3 _ rfl; (with_reducible repeat (first | refine blk_drewN ?_ _ | refine blk_drew ?_ | refine blk_alloc ?_ _)); exact BK246.out) hb); replace HB := Aside0.mk (below_step blw hb); (try clear hb); have hcz69_0 : w68.cell? ⟨gb246, 0, none⟩ = some (.int .i64 a0) := bk_ BK246; have hcz69_1 : w68.cell? ⟨gb246, 1, none⟩ = some (.string (rdOf ByteArray.empty l1 0)) := bk_ BK246; have hcz69_2 : w68.cell? ⟨gb246, 2, none⟩ = some (.string (rdOf ByteArray.empty l1 1)) := bk_ BK246; have hcz69_3 : w68.cell? ⟨gb246, 3, none⟩ = some (.string t254) := bk_ BK246; have hcz69_4 : w68.cell? ⟨gb246, 4, none⟩ = some (.int .i64 0) := bk_ BK246; have hfz69_0 := blk_frozen BK246.out 0; have hfz69_1 := blk_frozen BK246.out 1; have hfz69_2 := blk_frozen BK246.out 2; have hfz69_3 := blk_frozen BK246.out 3; have hfz69_4 := blk_frozen BK246.out 4))
     refine bodyPost_ret (results_ct rfl _ _ gb246 28 #[.int .i64 a0, .string (rdOf ByteArray.empty l1 0), .string (rdOf ByteArray.empty l1 1), .string t254, .int .i64 0] (0, 0) _ rfl (by (with_reducible repeat (first | refine blk_drewN ?_ _ | refine blk_drew ?_ | refine blk_alloc ?_ _)); refine blk_put (cs := #[.int .i64 a0, .string (rdOf ByteArray.empty l1 0), .string (rdOf ByteArray.empty l1 1), .string t254, .int .i64 0]) ?_ 4 _ rfl; (with_reducible repeat (first | refine blk_drewN ?_ _ | refine blk_drew ?_ | refine blk_alloc ?_ _)); refine blk_put (cs := #[.int .i64 a0, .string (rdOf ByteArray.empty l1 0), .string (rdOf ByteArray.empty l1 1), .string t254, .int .i64 0]) ?_ 3 _ rfl; (with_reducible repeat (first | refine blk_drewN ?_ _ | refine blk_drew ?_ | refine blk_alloc ?_ _)); refine blk_put (cs := #[.int .i64 a0, .string (rdOf ByteArray.empty l1 0), .string (rdOf ByteArray.empty l1 1), .string t254, .int .i64 0]) ?_ 2 _ rfl; (with_reducible repeat (first | refine blk_drewN ?_ _ | refine blk_drew ?_ | refine blk_alloc ?_ _)); refine blk_put (cs := #[.int .i64 a0, .string (rdOf ByteArray.empty l1 0), .string (rdOf ByteArray.empty l1 1), .string t254, .int .i64 0]) ?_ 1 _ rfl; (with_reducible repeat (first | refine blk_drewN ?_ _ | refine blk_drew ?_ | refine blk_alloc ?_ _)); refine blk_put (cs := #[.int .i64 a0, .string (rdOf ByteArray.empty l1 0), .string (rdOf ByteArray.empty l1 1), .string t254, .int .i64 0]) ?_ 0 _ rfl; (with_reducible repeat (first | refine blk_drewN ?_ _ | refine blk_drew ?_ | refine blk_alloc ?_ _)); exact BK246.out) Tryz.underlying28 rfl (by kernel_rfl)) rfl ?_
     exact ⟨by first | rfl | (simp [errW_none, errW_some] <;> rfl) | (simp [*, errW_none, errW_some] <;> rfl), blw⟩
 ·replace c23 := Bool.eq_false_iff.mpr c23
  subst c23
  rw [if_neg nft] at H
  simp only [Option.some.injEq, Prod.mk.injEq] at H
  obtain ⟨rfl, rfl, rfl, rfl, rfl, rfl⟩ := H
  go_enter Tryz.func33, Tryz.ntmps33
  try go_wp2_with (first | ((with_reducible refine gate_dst (N := 4) rfl ?_); refine box_event ?hg (N := 4) ?hd (cs := #[.int .i64 0, .string (⟨#[]⟩ : ByteArray), .string (⟨#[]⟩ : ByteArray), .string (⟨#[]⟩ : ByteArray), .int .i64 0]) (t := 28) ?hr ?_; (case hd => rfl); (case hg => rfl); (case hr => first | (go_simp; done) | (go_simp; rfl)); intro gb246 hg w70 hbox hb; have BK246 := Aside0.mk (hbox); have GW246 : Aside0 (w.heap.size ≤ gb246) := gw_ hg; have GE246 : Aside0 (w.heap.size ≤ gb246) := gw_ hg; replace HB := Aside0.mk (below_step blw hb); clear hb hbox hg; have hcz71_0 : w70.cell? ⟨gb246, 0, none⟩ = some (.int .i64 0) := bk_ BK246; have hcz71_1 : w70.cell? ⟨gb246, 1, none⟩ = some (.string (⟨#[]⟩ : ByteArray)) := bk_ BK246; have hcz71_2 : w70.cell? ⟨gb246, 2, none⟩ = some (.string (⟨#[]⟩ : ByteArray)) := bk_ BK246; have hcz71_3 : w70.cell? ⟨gb246, 3, none⟩ = some (.string (⟨#[]⟩ : ByteArray)) := bk_ BK246; have hcz71_4 : w70.cell? ⟨gb246, 4, none⟩ = some (.int .i64 0) := bk_ BK246; have hfz71_0 := blk_frozen BK246.out 0; have hfz71_1 := blk_frozen BK246.out 1; have hfz71_2 := blk_frozen BK246.out 2; have hfz71_3 := blk_frozen BK246.out 3; have hfz71_4 := blk_frozen BK246.out 4))
  have n0_ : Aside0 ((w70.setCell ⟨gb246, 0, none⟩ (.int .i64 a0)).heap[gb246]? = some (.cells #[.int .i64 a0, .string (⟨#[]⟩ : ByteArray), .string (⟨#[]⟩ : ByteArray), .string (⟨#[]⟩ : ByteArray), .int .i64 0] 28 (0, 0))) := ⟨by (with_reducible repeat (first | refine blk_drewN ?_ _ | refine blk_drew ?_ | refine blk_alloc ?_ _)); refine blk_put (cs := #[.int .i64 0, .string (⟨#[]⟩ : ByteArray), .string (⟨#[]⟩ : ByteArray), .string (⟨#[]⟩ : ByteArray), .int .i64 0]) ?_ 0 _ rfl; (with_reducible repeat (first | refine blk_drewN ?_ _ | refine blk_drew ?_ | refine blk_alloc ?_ _)); exact BK246.out⟩
  have n1_ : Aside0 (Below w.heap.size w (w70.setCell ⟨gb246, 0, none⟩ (.int .i64 a0))) := ⟨blw⟩
  (try clear BK246)
  (try clear HB)
  generalize (w70.setCell ⟨gb246, 0, none⟩ (.int .i64 a0)) = w72 at n0_ n1_ ⊢
  have BK246 := n0_
  have HB := n1_
  clear n0_ n1_
  replace BK246 := Aside0.mk (blk_drew BK246.out)
  replace HB := Aside0.mk (below_drew1 HB.out)
  have p251 : 0 ≤ (0 : Int) := (by omega)
  have q251 : 0 < (l1.length : Int) := od_
  obtain ⟨ad251, e251, hx251_0⟩ := Kd.at_string HR1.out 0 p251 q251
  have hw251_0 := hx251_0
  (try rw [show ((0 : Int)).toNat = 0 from rfl] at hw251_0)
  (try rw [show 0 * 1 = 0 from rfl] at hw251_0)
  (try rw [Addr.add_zero'] at hw251_0)
  cases e251
  have qi251 : (0 < l1.length) = True := eq_true (by omega)
  (try rw [show ((0 : Int)).toNat = 0 from rfl] at hx251_0)
  (try rw [Addr.add_zero'] at hx251_0)
  replace hx251_0 := (HB.out.cell (World.block_lt_of_cell? w _ hx251_0)).trans hx251_0
  replace p251 := eq_true p251
  replace q251 := eq_true q251
  have p252 : 0 ≤ (1 : Int) := (by omega)
  have q252 : 1 < (l1.length : Int) := od_
  obtain ⟨ad252, e252, hx252_0⟩ := Kd.at_string HR1.out 1 p252 q252
  have hw252_0 := hx252_0
  (try rw [show ((1 : Int)).toNat = 1 from rfl] at hw252_0)
  (try rw [show 1 * 1 = 1 from rfl] at hw252_0)
  (try simp only [Nat.reduceMul, Nat.reduceEqDiff, Go.Addr.add, ↓reduceIte] at hw252_0)
  obtain rfl : ad251 = ad252 := (by injection e252)
  (try simp only [show (1 : Int).toNat = 1 from rfl, Nat.reduceMul, Nat.reduceEqDiff, Go.Addr.add, ↓reduceIte] at hx252_0)
  have qi252 : (1 < l1.length) = True := eq_true (by omega)
  (try rw [show ((1 : Int)).toNat = 1 from rfl] at hx252_0)
  replace hx252_0 := (HB.out.cell (World.block_lt_of_cell? w _ hx252_0)).trans hx252_0
  replace p252 := eq_true p252
  replace q252 := eq_true q252
  refine start_ (n := 10) (S := fun w' => w'.cell? ad251 = some (.string (rdOf ByteArray.empty l1 0)) ∧ w'.cell? ⟨ad251.block, ad251.off + 1, none⟩ = some (.string (rdOf ByteArray.empty l1 1))) (ds := []) (ba 10 0) (by kernel_rfl) rfl rfl ⟨hc_ hw251_0, hc_ hw252_0⟩ (fun hHeld => ?_); refine with_tabW script_step.tab9 script_step.bits9 (fun HT_ HW_ => ?_)
  generalize w72.drew = w73 at BK246 HB hx251_0 hx252_0 hHeld ⊢
  refine pu_ 0 30 1 ?_
  refine pu_ 1 31 3 ?_
  refine pu_ 3 33 11 ?_
  refine pu_ 4 34 27 ?_
  refine tk_ 2 32 31 hHeld ?_
  refine pu_ 6 36 95 ?_
  refine tk_ 5 35 127 hHeld ?_
  refine one1 7 none 255 (fun K hK => ?_)
  have hs74 : w73.cell? ⟨gb246, 1, none⟩ = some (.string (⟨#[]⟩ : ByteArray)) := bk_ BK246
  have hfs74 := blk_frozen BK246.out 1
  refine skip_ (w1 := ?_) (by rfl) rfl ?_ ?_
  rotate_left
  ·go_simp
   rfl
  refine hK.out _ _ ⟨((cell_far (p := ⟨gb246, _, none⟩) (by first | exact Nat.ne_of_lt (Nat.lt_of_lt_of_le (by have := World.block_lt_of_cell? _ _ hw251_0; first | rwa [add_block] at this | exact this) GW246.out) | (rw [add_block]; exact Nat.ne_of_lt (Nat.lt_of_lt_of_le (by have := World.block_lt_of_cell? _ _ hw251_0; first | rwa [add_block] at this | exact this) GW246.out)) | (show (Addr.add _ _).block ≠ _; rw [add_block]; exact Nat.ne_of_lt (Nat.lt_of_lt_of_le (by have := World.block_lt_of_cell? _ _ hw251_0; first | rwa [add_block] at this | exact this) GW246.out)) | (dsimp only; exact Nat.ne_of_lt (Nat.lt_of_lt_of_le (by have := World.block_lt_of_cell? _ _ hw251_0; first | rwa [add_block] at this | exact this) GW246.out))) _).trans (hHeld.1)), ((cell_far (p := ⟨gb246, _, none⟩) (by first | exact Nat.ne_of_lt (Nat.lt_of_lt_of_le (by have := World.block_lt_of_cell? _ _ hw252_0; first | rwa [add_block] at this | exact this) GW246.out) | (rw [add_block]; exact Nat.ne_of_lt (Nat.lt_of_lt_of_le (by have := World.block_lt_of_cell? _ _ hw252_0; first | rwa [add_block] at this | exact this) GW246.out)) | (show (Addr.add _ _).block ≠ _; rw [add_block]; exact Nat.ne_of_lt (Nat.lt_of_lt_of_le (by have := World.block_lt_of_cell? _ _ hw252_0; first | rwa [add_block] at this | exact this) GW246.out)) | (dsimp only; exact Nat.ne_of_lt (Nat.lt_of_lt_of_le (by have := World.block_lt_of_cell? _ _ hw252_0; first | rwa [add_block] at this | exact this) GW246.out))) _).trans (hHeld.2))⟩ (fun hHeld => ?_)
  clear hK K
  refine pu_ 8 37 511 ?_
  refine one1 9 none 1023 (fun K hK => ?_)
  have hs75 : w73.cell? ⟨gb246, 2, none⟩ = some (.string (⟨#[]⟩ : ByteArray)) := bk_ BK246
  have hfs75 := blk_frozen BK246.out 2
  refine skip_ (w1 := ?_) (by rfl) rfl ?_ ?_
  rotate_left
  ·go_simp
   rfl
  refine hK.out _ _ ⟨((cell_far (p := ⟨gb246, _, none⟩) (by first | exact Nat.ne_of_lt (Nat.lt_of_lt_of_le (by have := World.block_lt_of_cell? _ _ hw251_0; first | rwa [add_block] at this | exact this) GW246.out) | (rw [add_block]; exact Nat.ne_of_lt (Nat.lt_of_lt_of_le (by have := World.block_lt_of_cell? _ _ hw251_0; first | rwa [add_block] at this | exact this) GW246.out)) | (show (Addr.add _ _).block ≠ _; rw [add_block]; exact Nat.ne_of_lt (Nat.lt_of_lt_of_le (by have := World.block_lt_of_cell? _ _ hw251_0; first | rwa [add_block] at this | exact this) GW246.out)) | (dsimp only; exact Nat.ne_of_lt (Nat.lt_of_lt_of_le (by have := World.block_lt_of_cell? _ _ hw251_0; first | rwa [add_block] at this | exact this) GW246.out))) _).trans (hHeld.1)), ((cell_far (p := ⟨gb246, _, none⟩) (by first | exact Nat.ne_of_lt (Nat.lt_of_lt_of_le (by have := World.block_lt_of_cell? _ _ hw252_0; first | rwa [add_block] at this | exact this) GW246.out) | (rw [add_block]; exact Nat.ne_of_lt (Nat.lt_of_lt_of_le (by have := World.block_lt_of_cell? _ _ hw252_0; first | rwa [add_block] at this | exact this) GW246.out)) | (show (Addr.add _ _).block ≠ _; rw [add_block]; exact Nat.ne_of_lt (Nat.lt_of_lt_of_le (by have := World.block_lt_of_cell? _ _ hw252_0; first | rwa [add_block] at this | exact this) GW246.out)) | (dsimp only; exact Nat.ne_of_lt (Nat.lt_of_lt_of_le (by have := World.block_lt_of_cell? _ _ hw252_0; first | rwa [add_block] at this | exact this) GW246.out))) _).trans (hHeld.2))⟩ (fun hHeld => ?_)
  clear hK K
  refine done_ (done_of HT_.out (by kernel_rfl)) ?_
  have p253 : 0 ≤ (2 : Int) := (by omega)
  have q253 : 2 < (l1.length : Int) := od_
  obtain ⟨ad253, e253, hx253_0⟩ := Kd.at_string HR1.out 2 p253 q253
  obtain rfl : ad251 = ad253 := (by injection e253)
  (try simp only [show (2 : Int).toNat = 2 from rfl, Nat.reduceMul, Nat.reduceEqDiff, Go.Addr.add, ↓reduceIte] at hx253_0)
  have qi253 : (2 < l1.length) = True := eq_true (by omega)
  (try rw [show ((2 : Int)).toNat = 2 from rfl] at hx253_0)
  have hn253_0 : ad251.block ≠ gb246 := Nat.ne_of_lt (Nat.lt_of_lt_of_le (by have := World.block_lt_of_cell? _ _ hx253_0; first | rwa [add_block] at this | exact this) GW246.out)
  have hn253_1 : ad251.block ≠ gb246 := Nat.ne_of_lt (Nat.lt_of_lt_of_le (by have := World.block_lt_of_cell? _ _ hx253_0; first | rwa [add_block] at this | exact this) GW246.out)
  replace hx253_0 := (HB.out.cell (World.block_lt_of_cell? w _ hx253_0)).trans hx253_0
  replace hx253_0 := (cell_far (p := ⟨gb246, 1, none⟩) (by first | (rw [add_block]; exact hn253_0) | (show (Addr.add _ _).block ≠ _; rw [add_block]; exact hn253_0) | exact hn253_0) (.string (rdOf ByteArray.empty l1 0))).trans hx253_0
  replace hx253_0 := (cell_far (p := ⟨gb246, 2, none⟩) (by first | (rw [add_block]; exact hn253_1) | (show (Addr.add _ _).block ≠ _; rw [add_block]; exact hn253_1) | exact hn253_1) (.string (rdOf ByteArray.empty l1 1))).trans hx253_0
  clear hn253_0
  clear hn253_1
  replace p253 := eq_true p253
  replace q253 := eq_true q253
  try go_wp2_with (first | ((with_reducible refine gc 5 rfl ?_); refine cl_ (some 42) Tryz.func5 (script_Unescape.calls k (rdOf ByteArray.empty l1 2) t254 false _ A22.out) ?_; rintro w76 hb; replace BK246 := Aside0.mk (blk_below (g := gb246) (o := .cells #[.int .i64 a0, .string (rdOf ByteArray.empty l1 0), .string (rdOf ByteArray.empty l1 1), .string (⟨#[]⟩ : ByteArray), .int .i64 0] 28 (0, 0)) (by (with_reducible repeat (first | refine blk_drewN ?_ _ | refine blk_drew ?_ | refine blk_alloc ?_ _)); refine blk_put (cs := #[.int .i64 a0, .string (rdOf ByteArray.empty l1 0), .string (⟨#[]⟩ : ByteArray), .string (⟨#[]⟩ : ByteArray), .int .i64 0]) ?_ 2 _ rfl; (with_reducible repeat (first | refine blk_drewN ?_ _ | refine blk_drew ?_ | refine blk_alloc ?_ _)); refine blk_put (cs := #[.int .i64 a0, .string (⟨#[]⟩ : ByteArray), .string (⟨#[]⟩ : ByteArray), .string (⟨#[]⟩ : ByteArray), .int .i64 0]) ?_ 1 _ rfl; (with_reducible repeat (first | refine blk_drewN ?_ _ | refine blk_drew ?_ | refine blk_alloc ?_ _)); exact BK246.out) hb); replace HB := Aside0.mk (below_step blw hb); (try clear hb); have hcz77_0 : w76.cell? ⟨gb246, 0, none⟩ = some (.int .i64 a0) := bk_ BK246; have hcz77_1 : w76.cell? ⟨gb246, 1, none⟩ = some (.string (rdOf ByteArray.empty l1 0)) := bk_ BK246; have hcz77_2 : w76.cell? ⟨gb246, 2, none⟩ = some (.string (rdOf ByteArray.empty l1 1)) := bk_ BK246; have hcz77_3 : w76.cell? ⟨gb246, 3, none⟩ = some (.string (⟨#[]⟩ : ByteArray)) := bk_ BK246; have hcz77_4 : w76.cell? ⟨gb246, 4, none⟩ = some (.int .i64 0) := bk_ BK246; have hfz77_0 := blk_frozen BK246.out 0; have hfz77_1 := blk_frozen BK246.out 1; have hfz77_2 := blk_frozen BK246.out 2; have hfz77_3 := blk_frozen BK246.out 3; have hfz77_4 := blk_frozen BK246.out 4))
  refine bodyPost_ret (results_ct rfl _ _ gb246 28 #[.int .i64 a0, .string (rdOf ByteArray.empty l1 0), .string (rdOf ByteArray.empty l1 1), .string t254, .int .i64 0] (0, 0) _ rfl (by (with_reducible repeat (first | refine blk_drewN ?_ _ | refine blk_drew ?_ | refine blk_alloc ?_ _)); refine blk_put (cs := #[.int .i64 a0, .string (rdOf ByteArray.empty l1 0), .string (rdOf ByteArray.empty l1 1), .string t254, .int .i64 0]) ?_ 4 _ rfl; (with_reducible repeat (first | refine blk_drewN ?_ _ | refine blk_drew ?_ | refine blk_alloc ?_ _)); refine blk_put (cs := #[.int .i64 a0, .string (rdOf ByteArray.empty l1 0), .string (rdOf ByteArray.empty l1 1), .string t254, .int .i64 0]) ?_ 3 _ rfl; (with_reducible repeat (first | refine blk_drewN ?_ _ | refine blk_drew ?_ | refine blk_alloc ?_ _)); refine blk_put (cs := #[.int .i64 a0, .string (rdOf ByteArray.empty l1 0), .string (rdOf ByteArray.empty l1 1), .string t254, .int .i64 0]) ?_ 2 _ rfl; (with_reducible repeat (first | refine blk_drewN ?_ _ | refine blk_drew ?_ | refine blk_alloc ?_ _)); refine blk_put (cs := #[.int .i64 a0, .string (rdOf ByteArray.empty l1 0), .string (rdOf ByteArray.empty l1 1), .string t254, .int .i64 0]) ?_ 1 _ rfl; (with_reducible repeat (first | refine blk_drewN ?_ _ | refine blk_drew ?_ | refine blk_alloc ?_ _)); refine blk_put (cs := #[.int .i64 a0, .string (rdOf ByteArray.empty l1 0), .string (rdOf ByteArray.empty l1 1), .string t254, .int .i64 0]) ?_ 0 _ rfl; (with_reducible repeat (first | refine blk_drewN ?_ _ | refine blk_drew ?_ | refine blk_alloc ?_ _)); refine blk_put (cs := #[.int .i64 a0, .string (rdOf ByteArray.empty l1 0), .string (rdOf ByteArray.empty l1 1), .string (⟨#[]⟩ : ByteArray), .int .i64 0]) ?_ 3 _ rfl; (with_reducible repeat (first | refine blk_drewN ?_ _ | refine blk_drew ?_ | refine blk_alloc ?_ _)); exact BK246.out) Tryz.underlying28 rfl (by kernel_rfl)) rfl ?_
  exact ⟨by first | rfl | (simp [errW_none, errW_some] <;> rfl) | (simp [*, errW_none, errW_some] <;> rfl), blw⟩
end Go.Proofs.YtcgfaagadejpmaaGreatDoor.Q
