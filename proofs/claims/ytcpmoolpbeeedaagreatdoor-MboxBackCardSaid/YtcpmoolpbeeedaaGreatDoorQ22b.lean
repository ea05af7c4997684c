-- Written by a program of this session (wip/myprint) out of the translation, for YtcpmoolpbeeedaaGreatDoor.
import Derived.Test.YtcpmoolpbeeedaaGreatDoorQ0
import Derived.Test.YtcpmoolpbeeedaaGreatDoorQ123
import Derived.Test.YtcpmoolpbeeedaaGreatDoorQ22a
import Derived.Test.YtcpmoolpbeeedaaGreatDoorQ4
import Derived.Test.YtcpmoolpbeeedaaGreatDoorQ8
namespace Go.Proofs.YtcpmoolpbeeedaaGreatDoor.Q
open Go.RowKit Go.Proofs.YtcpmoolpbeeedaaGreatDoorW.PrintWords Go.Proofs.YtcpmoolpbeeedaaGreatDoorW.PrintLast Go.Proofs.YtcpmoolpbeeedaaGreatDoorW.PrintMore Go.Proofs.YtcpmoolpbeeedaaGreatDoorW.PrintSq
attribute [local go_sem] max2_int min2_int max_two min_two max_three min_three max_four min_four   -- for this text's walks alone
set_option linter.unusedVariables false
set_option linter.unusedSimpArgs false

attribute [local go_sem high] eqA34
/-! ### bulletinlaw23_works: function 9 -/
def bulletinlaw23_works.f (k : Nat)  : Option (Bool) := (mbox_Entry.f k (⟨#[97]⟩ : ByteArray) (⟨#[98]⟩ : ByteArray) 0 (⟨#[70, 114, 111, 109, 32, 120, 13, 10]⟩ : ByteArray)).bind fun t382 => ((mbox_Split.f k t382).bind fun bt383 => ((mbox_Quote.f (⟨#[62, 70, 114, 111, 109, 32, 98]⟩ : ByteArray)).bind fun t387 => (if t387.toList = ([62, 62, 70, 114, 111, 109, 32, 98] : List UInt8) then (if t382.toList = ([70, 114, 111, 109, 32, 97, 64, 98, 32, 84, 104, 117, 32, 74, 97, 110, 32, 32, 49, 32, 48, 48, 58, 48, 48, 58, 48, 48, 32, 49, 57, 55, 48, 13, 10, 62, 70, 114, 111, 109, 32, 120, 13, 10, 13, 10] : List UInt8) then (if bt383.2 = 0 then (if (bt383.1.length : Int) = 1 then (if 0 < (bt383.1.length : Int) then (some (((((rd_T34 bt383.1 0).f0.f0).toList) == ([97] : List UInt8) && ((((rd_T34 bt383.1 0).f0.f1).toList) == ([98] : List UInt8))) && (((rd_T34 bt383.1 0).f1) == 0 && ((((rd_T34 bt383.1 0).f2).toList) == ([70, 114, 111, 109, 32, 120, 13, 10] : List UInt8))))) else (none)) else (none)) else (none)) else (none)) else (none))))
theorem bulletinlaw23_works.mono : ∀ k, LeO (bulletinlaw23_works.f k ) (bulletinlaw23_works.f (k + 1) ) := by
  intro  k
  unfold bulletinlaw23_works.f
  repeat' first | (with_reducible first | exact mbox_Entry.mono _ _ _ _ _ | exact mbox_Split.mono _ _ | exact LeO.refl _ | exact LeO.none _ | refine LeO.ite ?_ ?_ | refine LeO.bind ?_ (fun _ => ?_)) | exact mbox_Entry.mono _ _ _ _ _ | exact mbox_Split.mono _ _ | exact LeO.none _ | refine LeO.ite ?_ ?_ | refine LeO.bind ?_ (fun _ => ?_)
def bulletinlaw23_works.T4 : Bool × List (List Nat × List Nat) := (true, [([], []), ([0], [0]), ([1, 0], [1]), ([2], [2]), ([3, 2], [2, 3]), ([2, 4], [2, 4]), ([5, 2], [5]), ([6], [6]), ([7, 6], [6, 7]), ([6, 8], [6, 8]), ([9, 6], [9]), ([10], [10]), ([11, 10], [10, 11]), ([12, 10], [10, 12]), ([10, 13], [10, 13]), ([14, 10], [14]), ([15], [15]), ([16, 15], [15, 16]), ([17, 15], [15, 17]), ([15], [15]), ([18, 19, 15], [15, 18, 19]), ([15, 20], [15, 20]), ([21, 15, 0, 1, 2, 3, 4, 5, 6, 7, 8, 9, 10, 11, 12, 13, 14, 15, 16, 17, 18, 19, 20, 21], [21])])
def bulletinlaw23_works.B4 : List Nat := [0, 1, 3, 7, 15, 31, 63, 127, 255, 511, 1023, 2047, 4095, 8191, 16383, 32767, 65535, 131071, 262143, 65535, 1048575, 2097151, 4194303]
theorem bulletinlaw23_works.tab4 : rtab .any (opsOf Tryz.f9 4) = bulletinlaw23_works.T4 := by kernel_rfl
theorem bulletinlaw23_works.bits4 : waitsOk bulletinlaw23_works.T4.2 bulletinlaw23_works.B4 = true := by kernel_rfl
set_option maxHeartbeats 8000000 in
set_option maxRecDepth 100000 in
theorem bulletinlaw23_works.calls (k : Nat)  (r : Bool) (w : World) (hG : Amb w) (h : bulletinlaw23_works.f k  = some r) :
    Calls Tryz.prog 9 #[] w fun e w' => e = .returned (.bool r) ∧ Below w.heap.size w w' := by
 have hu32 := Tryz.underlying32
 have hu34 := Tryz.underlying34
 have HB := Aside0.mk (Below.refl w.heap.size w)
 unfold bulletinlaw23_works.f at h
 have H := h
 clear h
 have HG := Aside0.mk hG
 clear hG
 replace H := Option.bind_eq_some_iff.mp H
 obtain ⟨t382, A10, H⟩ := H
 try dsimp only at H
 have A1 := Aside0.mk A10
 clear A10
 replace H := Option.bind_eq_some_iff.mp H
 obtain ⟨⟨t383, t384⟩, A20, H⟩ := H
 try dsimp only at H
 have A2 := Aside0.mk A20
 clear A20
 replace H := Option.bind_eq_some_iff.mp H
 obtain ⟨t387, A30, H⟩ := H
 try dsimp only at H
 have A3 := Aside0.mk A30
 clear A30
 obtain ⟨c4, H⟩ := iteS H
 have c4b0 := beq_iff_eq.mpr c4
 have c4b1 := bne_eq_false_iff_eq.mpr c4
 clear c4
 obtain ⟨c5, H⟩ := iteS H
 have c5b0 := beq_iff_eq.mpr c5
 have c5b1 := bne_eq_false_iff_eq.mpr c5
 clear c5
 obtain ⟨c6, H⟩ := iteS H
 have c6b0 := beq_iff_eq.mpr c6
 have c6b1 := bne_eq_false_iff_eq.mpr c6
 clear c6
 obtain ⟨c7, H⟩ := iteS H
 have c7b0 := beq_iff_eq.mpr c7
 have c7b1 := bne_eq_false_iff_eq.mpr c7
 clear c7
 obtain ⟨c8, H⟩ := iteS H
 have c8b0 := decide_eq_true c8
 have c8b1 : decide (0 < t383.length) = true := decide_eq_true (by omega)
 clear c8
 obtain rfl := Option.some.inj H
 go_enter Tryz.func9, Tryz.ntmps9
 try go_wp2_with (first | ((with_reducible refine gate_dst (N := 1) rfl ?_); (try (refine gate_guard (by rfl) ?_; dsimp only)); refine box_event ?hg (N := 1) ?hd (cs := #[.string (⟨#[]⟩ : ByteArray), .string (⟨#[]⟩ : ByteArray), .int .i64 0, .string (⟨#[]⟩ : ByteArray)]) (t := 34) ?hr ?_; (case hd => rfl); (case hg => rfl); (case hr => first | (go_simp; done) | (go_simp; rfl)); intro gb381 hg w9 hbox hb; have BK381 := Aside0.mk (hbox); have GW381 : Aside0 (w.heap.size ≤ gb381) := gw_ hg; have GE381 : Aside0 (w.heap.size ≤ gb381) := gw_ hg; replace HB := Aside0.mk (below_step blw hb); clear hb hbox hg; have hcz10_0 : w9.cell? ⟨gb381, 0, none⟩ = some (.string (⟨#[]⟩ : ByteArray)) := bk_ BK381; have hcz10_1 : w9.cell? ⟨gb381, 1, none⟩ = some (.string (⟨#[]⟩ : ByteArray)) := bk_ BK381; have hcz10_2 : w9.cell? ⟨gb381, 2, none⟩ = some (.int .i64 0) := bk_ BK381; have hcz10_3 : w9.cell? ⟨gb381, 3, none⟩ = some (.string (⟨#[]⟩ : ByteArray)) := bk_ BK381; have hfz10_0 := blk_frozen BK381.out 0; have hfz10_1 := blk_frozen BK381.out 1; have hfz10_2 := blk_frozen BK381.out 2; have hfz10_3 := blk_frozen BK381.out 3) | ((with_reducible refine gc 15 rfl ?_); refine cl_ (some 8) Tryz.func15 (mbox_Entry.calls k (⟨#[97]⟩ : ByteArray) (⟨#[98]⟩ : ByteArray) 0 (⟨#[70, 114, 111, 109, 32, 120, 13, 10]⟩ : ByteArray) t382 _ (Amb.at HG.out blw) A1.out) ?_; rintro w11 hb; replace BK381 := Aside0.mk (blk_below (g := gb381) (o := .cells #[.string (⟨#[97]⟩ : ByteArray), .string (⟨#[98]⟩ : ByteArray), .int .i64 0, .string (⟨#[70, 114, 111, 109, 32, 120, 13, 10]⟩ : ByteArray)] 34 (0, 0)) (by (with_reducible repeat (first | refine blk_drewN ?_ _ | refine blk_drew ?_ | refine blk_alloc ?_ _)); refine blk_put (cs := #[.string (⟨#[97]⟩ : ByteArray), .string (⟨#[98]⟩ : ByteArray), .int .i64 0, .string (⟨#[]⟩ : ByteArray)]) ?_ 3 _ rfl; (with_reducible repeat (first | refine blk_drewN ?_ _ | refine blk_drew ?_ | refine blk_alloc ?_ _)); refine blk_put (cs := #[.string (⟨#[97]⟩ : ByteArray), .string (⟨#[98]⟩ : ByteArray), .int .i64 0, .string (⟨#[]⟩ : ByteArray)]) ?_ 2 _ rfl; (with_reducible repeat (first | refine blk_drewN ?_ _ | refine blk_drew ?_ | refine blk_alloc ?_ _)); refine blk_put (cs := #[.string (⟨#[97]⟩ : ByteArray), .string (⟨#[]⟩ : ByteArray), .int .i64 0, .string (⟨#[]⟩ : ByteArray)]) ?_ 1 _ rfl; (with_reducible repeat (first | refine blk_drewN ?_ _ | refine blk_drew ?_ | refine blk_alloc ?_ _)); refine blk_put (cs := #[.string (⟨#[]⟩ : ByteArray), .string (⟨#[]⟩ : ByteArray), .int .i64 0, .string (⟨#[]⟩ : ByteArray)]) ?_ 0 _ rfl; (with_reducible repeat (first | refine blk_drewN ?_ _ | refine blk_drew ?_ | refine blk_alloc ?_ _)); exact BK381.out) hb); replace HB := Aside0.mk (below_step blw hb); (try clear hb)) | ((with_reducible refine gc 20 rfl ?_); refine gl_ (some 11) Tryz.func20 #[.string t382] ?_; (with_reducible refine (mbox_Split.calls k t382 t383 t384 _ ?side1 A2.out).mono ?_); (case side1 => exact Amb.at HG.out blw); rintro e w12 ⟨v385, rfl, ho0, hb⟩; refine ⟨_, rfl, ?_⟩; have HO386 := Aside0.mk (Kd.R_lower (Kd.R_newB ho0 (g := gb381) (o := .cells #[.string (⟨#[97]⟩ : ByteArray), .string (⟨#[98]⟩ : ByteArray), .int .i64 0, .string (⟨#[70, 114, 111, 109, 32, 120, 13, 10]⟩ : ByteArray)] 34 (0, 0)) (bkw BK381)) (below_size blw)); replace BK381 := Aside0.mk (blk_below (g := gb381) (o := .cells #[.string (⟨#[97]⟩ : ByteArray), .string (⟨#[98]⟩ : ByteArray), .int .i64 0, .string (⟨#[70, 114, 111, 109, 32, 120, 13, 10]⟩ : ByteArray)] 34 (0, 0)) (bkw BK381) hb); replace HB := Aside0.mk (below_step blw hb); (try clear hb); (try clear ho0)))
 replace HO386 := Aside0.mk (Kd.R_drew HO386.out)
 replace BK381 := Aside0.mk (blk_drew BK381.out)
 replace HB := Aside0.mk (below_drew1 HB.out)
 have p388 : 0 ≤ (0 : Int) := (by omega)
 have q388 : 0 < (t383.length : Int) := od_
 (try (obtain ⟨Ao_, co_, eo_⟩ := Kd.R_slice HO386.out; subst eo_))
 obtain ⟨ad388, e388, hx388_0, hx388_1, hx388_2, hx388_3⟩ := at_T34 (Kd.R_reads' HO386.out).2.2 0 p388 q388
 cases e388
 have qi388 : (0 < t383.length) = True := eq_true (by omega)
 (try rw [show ((0 : Int)).toNat = 0 from rfl] at hx388_0)
 (try rw [show 0 * 4 = 0 from rfl] at hx388_0)
 (try rw [Addr.add_zero'] at hx388_0)
 (try rw [show ((0 : Int)).toNat = 0 from rfl] at hx388_1)
 (try rw [show 0 * 4 = 0 from rfl] at hx388_1)
 (try rw [Addr.add_zero'] at hx388_1)
 (try rw [show ((0 : Int)).toNat = 0 from rfl] at hx388_2)
 (try rw [show 0 * 4 = 0 from rfl] at hx388_2)
 (try rw [Addr.add_zero'] at hx388_2)
 (try rw [show ((0 : Int)).toNat = 0 from rfl] at hx388_3)
 (try rw [show 0 * 4 = 0 from rfl] at hx388_3)
 (try rw [Addr.add_zero'] at hx388_3)
 replace p388 := eq_true p388
 replace q388 := eq_true q388
 refine start_ (n := 23) (S := fun w' => w'.cell? ⟨gb381, 0, none⟩ = some (.string (⟨#[97]⟩ : ByteArray)) ∧ w'.cell? ⟨gb381, 1, none⟩ = some (.string (⟨#[98]⟩ : ByteArray)) ∧ w'.cell? ⟨gb381, 2, none⟩ = some (.int .i64 0) ∧ w'.cell? ⟨gb381, 3, none⟩ = some (.string (⟨#[70, 114, 111, 109, 32, 120, 13, 10]⟩ : ByteArray)) ∧ w'.cell? ad388 = some (.string ((rd_T34 t383 0).f0.f0)) ∧ w'.cell? ⟨ad388.block, ad388.off + 1, none⟩ = some (.string ((rd_T34 t383 0).f0.f1)) ∧ w'.cell? ⟨ad388.block, ad388.off + 2, none⟩ = some (.int .i64 ((rd_T34 t383 0).f1)) ∧ w'.cell? ⟨ad388.block, ad388.off + 3, none⟩ = some (.string ((rd_T34 t383 0).f2))) (ds := []) (ba 23 0) (by kernel_rfl) rfl rfl ⟨bk_ BK381, bk_ BK381, bk_ BK381, bk_ BK381, hx388_0, hx388_1, hx388_2, hx388_3⟩ (fun hHeld => ?_); refine with_tabW bulletinlaw23_works.tab4 bulletinlaw23_works.bits4 (fun HT_ HW_ => ?_)
 generalize w12.drew = w13 at HO386 BK381 HB hx388_0 hx388_1 hx388_2 hx388_3 hHeld ⊢
 refine one1 0 (some 14) 1 (fun K hK => ?_)
 refine go1 Tryz.func10 #[.string (⟨#[62, 70, 114, 111, 109, 32, 98]⟩ : ByteArray)] ?_
 with_reducible refine (mbox_Quote.calls (⟨#[62, 70, 114, 111, 109, 32, 98]⟩ : ByteArray) t387 _ ?side1 A3.out).mono ?_
 (case side1 => exact Amb.at HG.out blw)
 rintro e w14 ⟨rfl, hb⟩
 have HS4_ := (hb.cell (World.block_lt_of_cell? _ _ (hHeld.2.2.2.2.1))).trans (hHeld.2.2.2.2.1)
 have HS5_ := (hb.cell (World.block_lt_of_cell? _ _ (hHeld.2.2.2.2.2.1))).trans (hHeld.2.2.2.2.2.1)
 have HS6_ := (hb.cell (World.block_lt_of_cell? _ _ (hHeld.2.2.2.2.2.2.1))).trans (hHeld.2.2.2.2.2.2.1)
 have HS7_ := (hb.cell (World.block_lt_of_cell? _ _ (hHeld.2.2.2.2.2.2.2))).trans (hHeld.2.2.2.2.2.2.2)
 refine ⟨_, rfl, ?_⟩
 replace HO386 := Aside0.mk (Kd.R_below (by (with_reducible repeat (first | apply Kd.R_alloc | apply Kd.R_drewN | apply Kd.R_drew)); exact HO386.out) hb)
 replace BK381 := Aside0.mk (blk_below (g := gb381) (o := .cells #[.string (⟨#[97]⟩ : ByteArray), .string (⟨#[98]⟩ : ByteArray), .int .i64 0, .string (⟨#[70, 114, 111, 109, 32, 120, 13, 10]⟩ : ByteArray)] 34 (0, 0)) (bkw BK381) hb)
 replace HB := Aside0.mk (below_step blw hb)
 (try clear hb)
 obtain ⟨Ao15, co15, eo15⟩ := Kd.R_slice HO386.out
 (first | subst eo15 | (injection eo15 with f1_ f2_ f3_; have f4_ := f1_.symm; have f5_ := f3_.symm; clear f1_ f2_ f3_; subst f4_; subst f5_))
 refine hK.out _ _ ⟨bk_ BK381, bk_ BK381, bk_ BK381, bk_ BK381, HS4_, HS5_, HS6_, HS7_⟩ (fun hHeld => ?_)
 clear hK K
 refine nm_ (some 14) ?_
 refine pu_ 1 15 3 ?_
 refine pu_ 2 16 7 ?_
 refine pu_ 3 17 15 ?_
 refine pu_ 4 18 31 ?_
 refine pu_ 5 19 63 ?_
 refine pu_ 6 20 127 ?_
 refine pu_ 7 21 255 ?_
 refine pu_ 8 22 511 ?_
 refine pu_ 9 23 1023 ?_
 refine pu_ 10 24 2047 ?_
 refine pu_ 11 25 4095 ?_
 refine pu_ 12 26 8191 ?_
 refine pu_ 13 27 16383 ?_
 refine pu_ 14 28 32767 ?_
 refine pu_ 15 29 65535 ?_
 refine pu_ 16 30 131071 ?_
 refine pu_ 17 31 262143 ?_
 refine tk_ 18 32 524287 hHeld ?_
 refine tk_ 19 33 1048575 hHeld ?_
 refine pu_ 20 34 2097151 ?_
 refine pu_ 21 35 4194303 ?_
 refine pu_ 22 0 8388607 ?_
 refine done_ (done_of HT_.out (by kernel_rfl)) ?_
 try go_wp2
 go_ret
 exact ⟨by first | rfl | (simp [errW_none, errW_some] <;> rfl) | (simp [*, errW_none, errW_some] <;> rfl), blw⟩
end Go.Proofs.YtcpmoolpbeeedaaGreatDoor.Q
