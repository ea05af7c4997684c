-- Written by a program of this session (wip/myprint) out of the translation, for YtcpmoolpbeeedaaGreatDoor.
import Derived.Test.YtcpmoolpbeeedaaGreatDoorQ0
import Derived.Test.YtcpmoolpbeeedaaGreatDoorQ2
import Derived.Test.YtcpmoolpbeeedaaGreatDoorQ4
import Derived.Test.YtcpmoolpbeeedaaGreatDoorQ8
import Derived.Test.YtcpmoolpbeeedaaGreatDoorQ18
namespace Go.Proofs.YtcpmoolpbeeedaaGreatDoor.Q
open Go.RowKit Go.Proofs.YtcpmoolpbeeedaaGreatDoorW.PrintWords Go.Proofs.YtcpmoolpbeeedaaGreatDoorW.PrintLast Go.Proofs.YtcpmoolpbeeedaaGreatDoorW.PrintMore Go.Proofs.YtcpmoolpbeeedaaGreatDoorW.PrintSq
attribute [local go_sem] max2_int min2_int max_two min_two max_three min_three max_four min_four   -- for this text's walks alone
set_option linter.unusedVariables false
set_option linter.unusedSimpArgs false

attribute [local go_sem high] eqA34
/-! ### bulletinlaw23_works: function 9 -/
def bulletinlaw23_works.f (k : Nat)  : Option (Bool) := (mbox_Entry.f k (⟨#[97]⟩ : ByteArray) (⟨#[98]⟩ : ByteArray) 0 (⟨#[70, 114, 111, 109, 32, 120, 13, 10]⟩ : ByteArray)).bind fun t382 => ((mbox_Split.f k t382).bind fun bt383 => ((mbox_Quote.f (⟨#[62, 70, 114, 111, 109, 32, 98]⟩ : ByteArray)).bind fun t387 => (if t387.toList = ([62, 62, 70, 114, 111, 109, 32, 98] : List UInt8) then (if t382.toList = ([70, 114, 111, 109, 32, 97, 64, 98, 32, 84, 104, 117, 32, 74, 97, 110, 32, 32, 49, 32, 48, 48, 58, 48, 48, 58, 48, 48, 32, 49, 57, 55, 48, 13, 10, 62, 70, 114, 111, 109, 32, 120, 13, 10, 13, 10] : List UInt8) then (if bt383.2 = 0 then (if (bt383.1.length : Int) = 1 then (if 0 < (bt383.1.length : Int) then (some (((((rd_T34 bt383.1 0).f0.f0).toList) == ([97] : List UInt8) && ((((rd_T34 bt383.1 0).f0.f1).toList) == ([98] : List UInt8))) && (((rd_T34 bt383.1 0).f1) == 0 && ((((rd_T34 bt383.1 0).f2).toList) == ([70, 114, 111, 109, 32, 120, 13, 10] : List UInt8))))) else (none)) else (none)) else (none)) else (none)) else (none))))
theorem bulletinlaw23_works.mono : ∀ k, LeO (bulletinlaw23_works.f k ) (bulletinlaw23_works.f (k + 1) ) := by
  intro  k
  unfold bulletinlaw23_works.f
  repeat' first | (with_reducible first | exact mbox_Entry.mono _ _ _ _ _ | exact mbox_Split.mono _ _ | exact LeO.refl _ | exact LeO.none _ | refine LeO.ite ?_ ?_ | refine LeO.bind ?_ (fun _ => ?_)) | exact mbox_Entry.mono _ _ _ _ _ | exact mbox_Split.mono _ _ | exact LeO.none _ | refine LeO.ite ?_ ?_ | refine LeO.bind ?_ (fun _ => ?_)
def bulletinlaw23_works.T4 : Bool × List (List Nat × List Nat) := (true, [([], []), ([0], [0]), ([1, 0], [1]), ([2], [2]), ([3, 2], [2, 3]), ([2, 4], [2, 4]), ([5, 2], [5]), ([6], [6]), ([7, 6], [6, 7]), ([6, 8], [6, 8]), ([9, 6], [9]), ([10], [10]), ([11, 10], [10, 11]), ([12, 10], [10, 12]), ([10, 13], [10, 13]), ([14, 10], [14]), ([15], [15]), ([16, 15], [15, 16]), ([17, 15], [15, 17]), ([15], [15]), ([18, 19, 15], [15, 18, 19]), ([15, 20], [15, 20]), ([21, 15, 0, 1, 2, 3, 4, 5, 6, 7, 8, 9, 10, 11, 12, 13, 14, 15, 16, 17, 18, 19, 20, 21], [21])])
def bulletinlaw23_works.B4 : List Nat := [0, 1, 3, 7, 15, 31, 63, 127, 255, 511, 1023, 2047, 4095, 8191, 16383, 32767, 65535, 131071, 262143, 65535, 1048575, 2097151, 4194303]
theorem bulletinlaw23_works.tab4 : rtab .any (opsOf Tryz.f9 4) = bulletinlaw23_works.T4 := by kernel_rfl
theorem bulletinlaw23_works.bits4 : waitsOk bulletinlaw23_works.T4.2 bulletinlaw23_works.B4 = true := by kernel_rfl
set_option maxHeartbeats 8000000 in
set_option maxRecDepth 100000 in
theorem bulletinlaw23_works.calls (k : Nat)  (r : Bool) (w : World) (hG : Amb w) (h : bulletinlaw23_works.f k  = some r) :
    Calls Tryz.prog 9 #[] w fun e w' => e = .returned (.bool r) ∧ Below w.heap.size w w' := by
 have hu32 := Tryz.underlying32
 have hu34 := Tryz.underlying34
 have HB := Aside0.mk (Below.refl w.heap.size w)
 unfold bulletinlaw23_works.f at h
 have H := h
 clear h
 have HG := Aside0.mk hG
 clear hG
 replace H := Option.bind_eq_some_iff.mp H
 obtain ⟨t382, A10, H⟩ := H
 try dsimp only at H
 have A1 := Aside0.mk A10
 clear A10
 replace H := Option.bind_eq_some_iff.mp H
 obtain ⟨⟨t383, t384⟩, A20, H⟩ := H
 try dsimp only at H
 have A2 := Aside0.mk A20
 clear A20
 replace H := Option.bind_eq_some_iff.mp H
 obtain ⟨t387, A30, H⟩ := H
 try dsimp only at H
 have A3 := Aside0.mk A30
 clear A30
 obtain ⟨c4, H⟩ := iteS H
 have c4b0 := beq_iff_eq.mpr c4
 have c4b1 := bne_eq_false_iff_eq.mpr c4
 clear c4
 obtain ⟨c5, H⟩ := iteS H
 have c5b0 := beq_iff_eq.mpr c5
 have c5b1 := bne_eq_false_iff_eq.mpr c5
 clear c5
 obtain ⟨c6, H⟩ := iteS H
 have c6b0 := beq_iff_eq.mpr c6
 have c6b1 := bne_eq_false_iff_eq.mpr c6
 clear c6
 obtain ⟨c7, H⟩ := iteS H
 have c7b0 := beq_iff_eq.mpr c7
 have c7b1 := bne_eq_false_iff_eq.mpr c7
 clear c7
 obtain ⟨c8, H⟩ := iteS H
 have c8b0 := decide_eq_true c8
 have c8b1 : decide (0 < t383.length) = true := decide_eq_true (by omega)
 clear c8
 obtain rfl := Option.some.inj H
 go_enter Tryz.func9, Tryz.ntmps9
 try go_wp2_with (first | ((with_reducible refine gate_dst (N := 1) rfl ?_); (try (refine gate_guard (by rfl) ?_; dsimp only)); refine box_event ?hg (N := 1) ?hd (cs := #[.string (⟨#[]⟩ : ByteArray), .string (⟨#[]⟩ : ByteArray), .int .i64 0, .string (⟨#[]⟩ : ByteArray)]) (t := 34) ?hr ?_; (case hd => rfl); (case hg => rfl); (case hr => first | (go_simp; done) | (go_simp; rfl)); intro gb381 hg w9 hbox hb; have BK381 := Aside0.mk (hbox); have GW381 : Aside0 (w.heap.size ≤ gb381) := gw_ hg; have GE381 : Aside0 (w.heap.size ≤ gb381) := gw_ hg; replace HB := Aside0.mk (below_step blw hb); clear hb hbox hg; have hcz10_0 : w9.cell? ⟨gb381, 0, none⟩ = some (.string (⟨#[]⟩ : ByteArray)) := bk_ BK381; have hcz10_1 : w9.cell? ⟨gb381, 1, none⟩ = some (.string (⟨#[]⟩ : ByteArray)) := bk_ BK381; have hcz10_2 : w9.cell? ⟨gb381, 2, none⟩ = some (.int .i64 0) := bk_ BK381; have hcz10_3 : w9.cell? ⟨gb381, 3, none⟩ = some (.string (⟨#[]⟩ : ByteArray)) := bk_ BK381; have hfz10_0 := blk_frozen BK381.out 0; have hfz10_1 := blk_frozen BK381.out 1; have hfz10_2 := blk_frozen BK381.out 2; have hfz10_3 := blk_frozen BK381.out 3) | ((with_reducible refine gc 15 rfl ?_); refine cl_ (some 8) Tryz.func15 (mbox_Entry.calls k (⟨#[97]⟩ : ByteArray) (⟨#[98]⟩ : ByteArray) 0 (⟨#[70, 114, 111, 109, 32, 120, 13, 10]⟩ : ByteArray) t382 _ (Amb.at HG.out blw) A1.out) ?_; rintro w11 hb; replace BK381 := Aside0.mk (blk_below (g := gb381) (o := .cells #[.string (⟨#[97]⟩ : ByteArray), .string (⟨#[98]⟩ : ByteArray), .int .i64 0, .string (⟨#[70, 114, 111, 109, 32, 120, 13, 10]⟩ : ByteArray)] 34 (0, 0)) (by (with_reducible repeat (first | refine blk_drewN ?_ _ | refine blk_drew ?_ | refine blk_alloc ?_ _)); refine blk_put (cs := #[.string (⟨#[97]⟩ : ByteArray), .string (⟨#[98]⟩ : ByteArray), .int .i64 0, .string (⟨#[]⟩ : ByteArray)]) ?_ 3 _ rfl; (with_reducible repeat (first | refine blk_drewN ?_ _ | refine blk_drew ?_ | refine blk_alloc ?_ _)); refine blk_put (cs := #[.string (⟨#[97]⟩ : ByteArray), .string (⟨#[98]⟩ : ByteArray), .int .i64 0, .string (⟨#[]⟩ : ByteArray)]) ?_ 2 _ rfl; (with_reducible repeat (first | refine blk_drewN ?_ _ | refine blk_drew ?_ | refine blk_alloc ?_ _)); refine blk_put (cs := #[.string (⟨#[97]⟩ : ByteArray), .string (⟨#[]⟩ : ByteArray), .int .i64 0, .string (⟨#[]⟩ : ByteArray)]) ?_ 1 _ rfl; (with_reducible repeat (first | refine blk_drewN ?_ _ | refine blk_drew ?_ | refine blk_alloc ?_ _)); refine blk_put (cs := #[.string (⟨#[]⟩ : ByteArray), .string (⟨#[]⟩ : ByteArray), .int .i64 0, .string (⟨#[]⟩ : ByteArray)]) ?_ 0 _ rfl; (with_reducible repeat (first | refine blk_drewN ?_ _ | refine blk_drew ?_ | refine blk_alloc ?_ _)); exact BK381.out) hb); replace HB := Aside0.mk (below_step blw hb); (try clear hb)) | ((with_reducible refine gc 20 rfl ?_); refine gl_ (some 11) Tryz.func20 #[.string t382] ?_; (with_reducible refine (mbox_Split.calls k t382 t383 t384 _ ?side1 A2.out).mono ?_); (case side1 => exact Amb.at HG.out blw); rintro e w12 ⟨v385, rfl, ho0, hb⟩; refine ⟨_, rfl, ?_⟩; have HO386 := Aside0.mk (Kd.R_lower (Kd.R_newB ho0 (g := gb381) (o := .cells #[.string (⟨#[97]⟩ : ByteArray), .string (⟨#[98]⟩ : ByteArray), .int .i64 0, .string (⟨#[70, 114, 111, 109, 32, 120, 13, 10]⟩ : ByteArray)] 34 (0, 0)) (bkw BK381)) (below_size blw)); replace BK381 := Aside0.mk (blk_below (g := gb381) (o := .cells #[.string (⟨#[97]⟩ : ByteArray), .string (⟨#[98]⟩ : ByteArray), .int .i64 0, .string (⟨#[70, 114, 111, 109, 32, 120, 13, 10]⟩ : ByteArray)] 34 (0, 0)) (bkw BK381) hb); replace HB := Aside0.mk (below_step blw hb); (try clear hb); (try clear ho0)))
 replace HO386 := Aside0.mk (Kd.R_drew HO386.out)
 replace BK381 := Aside0.mk (blk_drew BK381.out)
 replace HB := Aside0.mk (below_drew1 HB.out)
 have p388 : 0 ≤ (0 : Int) := (by omega)
 have q388 : 0 < (t383.length : Int) := od_
 (try (obtain ⟨Ao_, co_, eo_⟩ := Kd.R_slice HO386.out; subst eo_))
 obtain ⟨ad388, e388, hx388_0, hx388_1, hx388_2, hx388_3⟩ := at_T34 (Kd.R_reads' HO386.out).2.2 0 p388 q388
 cases e388
 have qi388 : (0 < t383.length) = True := eq_true (by omega)
 (try rw [show ((0 : Int)).toNat = 0 from rfl] at hx388_0)
 (try rw [show 0 * 4 = 0 from rfl] at hx388_0)
 (try rw [Addr.add_zero'] at hx388_0)
 (try rw [show ((0 : Int)).toNat = 0 from rfl] at hx388_1)
 (try rw [show 0 * 4 = 0 from rfl] at hx388_1)
 (try rw [Addr.add_zero'] at hx388_1)
 (try rw [show ((0 : Int)).toNat = 0 from rfl] at hx388_2)
 (try rw [show 0 * 4 = 0 from rfl] at hx388_2)
 (try rw [Addr.add_zero'] at hx388_2)
 (try rw [show ((0 : Int)).toNat = 0 from rfl] at hx388_3)
 (try rw [show 0 * 4 = 0 from rfl] at hx388_3)
 (try rw [Addr.add_zero'] at hx388_3)
 replace p388 := eq_true p388
 replace q388 := eq_true q388
 refine start_ (n := 23) (S := fun w' => w'.cell? ⟨gb381, 0, none⟩ = some (.string (⟨#[97]⟩ : ByteArray)) ∧ w'.cell? ⟨gb381, 1, none⟩ = some (.string (⟨#[98]⟩ : ByteArray)) ∧ w'.cell? ⟨gb381, 2, none⟩ = some (.int .i64 0) ∧ w'.cell? ⟨gb381, 3, none⟩ = some (.string (⟨#[70, 114, 111, 109, 32, 120, 13, 10]⟩ : ByteArray)) ∧ w'.cell? ad388 = some (.string ((rd_T34 t383 0).f0.f0)) ∧ w'.cell? ⟨ad388.block, ad388.off + 1, none⟩ = some (.string ((rd_T34 t383 0).f0.f1)) ∧ w'.cell? ⟨ad388.block, ad388.off + 2, none⟩ = some (.int .i64 ((rd_T34 t383 0).f1)) ∧ w'.cell? ⟨ad388.block, ad388.off + 3, none⟩ = some (.string ((rd_T34 t383 0).f2))) (ds := []) (ba 23 0) (by kernel_rfl) rfl rfl ⟨bk_ BK381, bk_ BK381, bk_ BK381, bk_ BK381, hx388_0, hx388_1, hx388_2, hx388_3⟩ (fun hHeld => ?_); refine with_tabW bulletinlaw23_works.tab4 bulletinlaw23_works.bits4 (fun HT_ HW_ => ?_)
 generalize w12.drew = w13 at HO386 BK381 HB hx388_0 hx388_1 hx388_2 hx388_3 hHeld ⊢
 refine one1 0 (some 14) 1 (fun K hK => ?_)
 refine go1 Tryz.func10 #[.string (⟨#[62, 70, 114, 111, 109, 32, 98]⟩ : ByteArray)] ?_
 with_reducible refine (mbox_Quote.calls (⟨#[62, 70, 114, 111, 109, 32, 98]⟩ : ByteArray) t387 _ ?side1 A3.out).mono ?_
 (case side1 => exact Amb.at HG.out blw)
 rintro e w14 ⟨rfl, hb⟩
 have HS4_ := (hb.cell (World.block_lt_of_cell? _ _ (hHeld.2.2.2.2.1))).trans (hHeld.2.2.2.2.1)
 have HS5_ := (hb.cell (World.block_lt_of_cell? _ _ (hHeld.2.2.2.2.2.1))).trans (hHeld.2.2.2.2.2.1)
 have HS6_ := (hb.cell (World.block_lt_of_cell? _ _ (hHeld.2.2.2.2.2.2.1))).trans (hHeld.2.2.2.2.2.2.1)
 have HS7_ := (hb.cell (World.block_lt_of_cell? _ _ (hHeld.2.2.2.2.2.2.2))).trans (hHeld.2.2.2.2.2.2.2)
 refine ⟨_, rfl, ?_⟩
 replace HO386 := Aside0.mk (Kd.R_below (by (with_reducible repeat (first | apply Kd.R_alloc | apply Kd.R_drewN | apply Kd.R_drew)); exact HO386.out) hb)
 replace BK381 := Aside0.mk (blk_below (g := gb381) (o := .cells #[.string (⟨#[97]⟩ : ByteArray), .string (⟨#[98]⟩ : ByteArray), .int .i64 0, .string (⟨#[70, 114, 111, 109, 32, 120, 13, 10]⟩ : ByteArray)] 34 (0, 0)) (bkw BK381) hb)
 replace HB := Aside0.mk (below_step blw hb)
 (try clear hb)
 obtain ⟨Ao15, co15, eo15⟩ := Kd.R_slice HO386.out
 (first | subst eo15 | (injection eo15 with f1_ f2_ f3_; have f4_ := f1_.symm; have f5_ := f3_.symm; clear f1_ f2_ f3_; subst f4_; subst f5_))
 refine hK.out _ _ ⟨bk_ BK381, bk_ BK381, bk_ BK381, bk_ BK381, HS4_, HS5_, HS6_, HS7_⟩ (fun hHeld => ?_)
 clear hK K
 refine nm_ (some 14) ?_
 refine pu_ 1 15 3 ?_
 refine pu_ 2 16 7 ?_
 refine pu_ 3 17 15 ?_
 refine pu_ 4 18 31 ?_
 refine pu_ 5 19 63 ?_
 refine pu_ 6 20 127 ?_
 refine pu_ 7 21 255 ?_
 refine pu_ 8 22 511 ?_
 refine pu_ 9 23 1023 ?_
 refine pu_ 10 24 2047 ?_
 refine pu_ 11 25 4095 ?_
 refine pu_ 12 26 8191 ?_
 refine pu_ 13 27 16383 ?_
 refine pu_ 14 28 32767 ?_
 refine pu_ 15 29 65535 ?_
 refine pu_ 16 30 131071 ?_
 refine pu_ 17 31 262143 ?_
 refine tk_ 18 32 524287 hHeld ?_
 refine tk_ 19 33 1048575 hHeld ?_
 refine pu_ 20 34 2097151 ?_
 refine pu_ 21 35 4194303 ?_
 refine pu_ 22 0 8388607 ?_
 refine done_ (done_of HT_.out (by kernel_rfl)) ?_
 try go_wp2
 go_ret
 exact ⟨by first | rfl | (simp [errW_none, errW_some] <;> rfl) | (simp [*, errW_none, errW_some] <;> rfl), blw⟩

/-! ### bulletinlaw23_light: function 14 -/
mutual
def bulletinlaw23_light.l0 : Nat → List (S28) → Int → Option (Bool)
  | 0, _, _ => none
  | k + 1, x0, x3 => if x3 < (x0.length : Int) then (bulletinlaw23_light.j1 k x0 x3 (decide (x3 < 10))) else (bulletinlaw23_light.j1 k x0 x3 false)
def bulletinlaw23_light.j1 : Nat → List (S28) → Int → Bool → Option (Bool)
  | 0, _, _, _ => none
  | k + 1, x0, x3, x11 => if x11 = true then (if 0 ≤ x3 then (if x3 < (x0.length : Int) then (if (((rd_T28 x0 x3).f2).size : Int) > 1000 then (some false) else (if (((rd_T28 x0 x3).f0.f0).size : Int) > 300 then (some false) else (if (((rd_T28 x0 x3).f0.f1).size : Int) > 300 then (some false) else (bulletinlaw23_light.l0 k x0 (wrap64 (x3 + 1)))))) else (none)) else (none)) else (some (decide ((x0.length : Int) ≤ 10)))
end
def bulletinlaw23_light.f (k : Nat) (l0 : List (S28)) : Option (Bool) := bulletinlaw23_light.l0 k l0 0
theorem bulletinlaw23_light.mono_l : ∀ k, (∀ y0 y1, LeO (bulletinlaw23_light.l0 k y0 y1) (bulletinlaw23_light.l0 (k + 1) y0 y1)) ∧ (∀ y0 y1 y2, LeO (bulletinlaw23_light.j1 k y0 y1 y2) (bulletinlaw23_light.j1 (k + 1) y0 y1 y2))
  | 0 => ⟨fun _ _ r h => by simp [bulletinlaw23_light.l0] at h, fun _ _ _ r h => by simp [bulletinlaw23_light.j1] at h⟩
  | k + 1 => by
    obtain ⟨ih0, ih1⟩ := bulletinlaw23_light.mono_l k
    refine ⟨?_, ?_⟩
    · intro y0 y1
      unfold bulletinlaw23_light.l0
      repeat' first | (with_reducible first | exact ih0 _ _ | exact ih1 _ _ _ | exact LeO.refl _ | exact LeO.none _ | refine LeO.ite ?_ ?_ | refine LeO.bind ?_ (fun _ => ?_)) | exact ih0 _ _ | exact ih1 _ _ _ | exact LeO.none _ | refine LeO.ite ?_ ?_ | refine LeO.bind ?_ (fun _ => ?_)
    · intro y0 y1 y2
      unfold bulletinlaw23_light.j1
      repeat' first | (with_reducible first | exact ih0 _ _ | exact ih1 _ _ _ | exact LeO.refl _ | exact LeO.none _ | refine LeO.ite ?_ ?_ | refine LeO.bind ?_ (fun _ => ?_)) | exact ih0 _ _ | exact ih1 _ _ _ | exact LeO.none _ | refine LeO.ite ?_ ?_ | refine LeO.bind ?_ (fun _ => ?_)
theorem bulletinlaw23_light.mono : ∀ a0 k, LeO (bulletinlaw23_light.f k a0) (bulletinlaw23_light.f (k + 1) a0) := by
  intro a0 k
  obtain ⟨ih0, ih1⟩ := bulletinlaw23_light.mono_l k
  unfold bulletinlaw23_light.f
  repeat' first | (with_reducible first | exact ih0 _ _ | exact ih1 _ _ _ | exact LeO.refl _ | exact LeO.none _ | refine LeO.ite ?_ ?_ | refine LeO.bind ?_ (fun _ => ?_)) | exact ih0 _ _ | exact ih1 _ _ _ | exact LeO.none _ | refine LeO.ite ?_ ?_ | refine LeO.bind ?_ (fun _ => ?_)
set_option maxHeartbeats 8000000 in
set_option maxRecDepth 100000 in
theorem bulletinlaw23_light.calls (k : Nat) (A0 : Option Addr) (c0 : Nat) (l0 : List (S28)) (r : Bool) (w : World) (hr0 : Kd.C k28 w A0 l0.length l0) (hc0 : l0.length ≤ c0) (h : bulletinlaw23_light.f k l0 = some r) :
    Calls Tryz.prog 14 #[.slice A0 l0.length c0] w fun e w' => e = .returned (.bool r) ∧ Drawn0 w w' := by
 have HR0 := Aside0.mk hr0
 have HC0 := Aside0.mk hc0
 clear hr0 hc0
 unfold bulletinlaw23_light.f at h
 have H := h
 clear h
 have H' := Aside0.mk H
 clear H
 go_enter Tryz.func14, Tryz.ntmps14
 go_wp2
 go_loopg [3] k (fun kq v3 w' => ∃ (x3_1 : Int), v3 = .int .i64 x3_1 ∧ Aside0 (bulletinlaw23_light.l0 kq l0 x3_1 = some r) ∧ Aside0 (kq ≤ k) ∧ Drawn0 w w')
 case atStart => exact ⟨(0), eqs, H', ⟨Nat.le_refl _⟩, drw⟩
 case round =>
  clear H'
  try clear c1
  obtain ⟨x3_1, rfl, HA, HK1, ⟨m1, rfl⟩⟩ := hrel
  cases gk with
  | zero => exact absurd HA.out (by simp [bulletinlaw23_light.l0])
  | succ k1 =>
   have H := HA.out
   clear HA
   simp only [bulletinlaw23_light.l0] at H
   have HC2 := Aside0.mk H
   clear H
   go_upto_region 2 with (fail)
   go_cut [11] (fun v11 wc => ∃ (kq : Nat) (x11_1 : Bool), v11 = .bool x11_1 ∧ Aside0 (bulletinlaw23_light.j1 kq l0 x3_1 x11_1 = some r) ∧ Aside0 (kq ≤ k1) ∧ Drawn0 w wc)
   case first =>
    have H := HC2.out
    clear HC2
    by_cases c3 : x3_1 < (l0.length : Int)
    ·rw [if_pos c3] at H
     have c3b0 := decide_eq_true c3
     clear c3
     (first | rw [c3b0] | (simp only [i64_w, i32_w]; rw [c3b0]) | skip)
     have H' := Aside0.mk H
     clear H
     go_wp2
     go_meet
     case rel => exact ⟨_, (decide (x3_1 < 10)), eqs, H', ⟨by have := HK1.out; first | omega | exact Nat.le_refl _⟩, drw⟩
    ·rw [if_neg c3] at H
     have c3b0 := decide_eq_false c3
     clear c3
     (first | rw [c3b0] | (simp only [i64_w, i32_w]; rw [c3b0]) | skip)
     have H' := Aside0.mk H
     clear H
     go_wp2
     go_meet
     case rel => exact ⟨_, (false), eqs, H', ⟨by have := HK1.out; first | omega | exact Nat.le_refl _⟩, drw⟩
   case rest =>
    clear HC2
    try clear c1
    try clear p2
    try clear c3
    try clear c3b0
    obtain ⟨kq, x11_1, rfl, HA, HJ1, ⟨mc1, rfl⟩⟩ := hcut
    cases kq with
    | zero => exact absurd HA.out (by simp [bulletinlaw23_light.j1])
    | succ kj1 =>
     have H := HA.out
     clear HA
     simp only [bulletinlaw23_light.j1] at H
     by_cases c4 : x11_1 = true
     ·subst c4
      rw [if_pos rfl] at H
      obtain ⟨c5, H⟩ := iteS H
      have c5b0 := decide_eq_true c5
      clear c5
      obtain ⟨c6, H⟩ := iteS H
      have c6b0 := decide_eq_true c6
      clear c6
      by_cases c7 : (((rd_T28 l0 x3_1).f2).size : Int) > 1000
      ·rw [if_pos c7] at H
       have c7b0 : decide (1000 < (((rd_T28 l0 x3_1).f2).size : Int)) = true := decide_eq_true c7
       have c7b1 : decide (1000 < ((rd_T28 l0 x3_1).f2).size) = true := decide_eq_true (by omega)
       clear c7
       obtain rfl := Option.some.inj H
       have p389 : 0 ≤ (x3_1 : Int) := od_
       have q389 : x3_1 < (l0.length : Int) := od_
       obtain ⟨ad389, e389, hx389_0, hx389_1, hx389_2, hx389_3⟩ := at_T28 HR0.out x3_1 p389 q389
       cases e389
       replace p389 := eq_true p389
       replace q389 := eq_true q389
       go_wp2
       go_ret
       exact ⟨eqs, drw⟩
      ·rw [if_neg c7] at H
       have c7b0 : decide (1000 < (((rd_T28 l0 x3_1).f2).size : Int)) = false := decide_eq_false c7
       have c7b1 : decide (1000 < ((rd_T28 l0 x3_1).f2).size) = false := decide_eq_false (by omega)
       clear c7
       by_cases c8 : (((rd_T28 l0 x3_1).f0.f0).size : Int) > 300
       ·rw [if_pos c8] at H
        have c8b0 : decide (300 < (((rd_T28 l0 x3_1).f0.f0).size : Int)) = true := decide_eq_true c8
        have c8b1 : decide (300 < ((rd_T28 l0 x3_1).f0.f0).size) = true := decide_eq_true (by omega)
        clear c8
        obtain rfl := Option.some.inj H
        have p389 : 0 ≤ (x3_1 : Int) := od_
        have q389 : x3_1 < (l0.length : Int) := od_
        obtain ⟨ad389, e389, hx389_0, hx389_1, hx389_2, hx389_3⟩ := at_T28 HR0.out x3_1 p389 q389
        cases e389
        replace p389 := eq_true p389
        replace q389 := eq_true q389
        have p390 : 0 ≤ (x3_1 : Int) := od_
        have q390 : x3_1 < (l0.length : Int) := od_
        obtain ⟨ad390, e390, hx390_0, hx390_1, hx390_2, hx390_3⟩ := at_T28 HR0.out x3_1 p390 q390
        obtain rfl : ad389 = ad390 := (by injection e390)
        replace p390 := eq_true p390
        replace q390 := eq_true q390
        go_wp2
        go_ret
        exact ⟨eqs, drw⟩
       ·rw [if_neg c8] at H
        have c8b0 : decide (300 < (((rd_T28 l0 x3_1).f0.f0).size : Int)) = false := decide_eq_false c8
        have c8b1 : decide (300 < ((rd_T28 l0 x3_1).f0.f0).size) = false := decide_eq_false (by omega)
        clear c8
        by_cases c9 : (((rd_T28 l0 x3_1).f0.f1).size : Int) > 300
        ·rw [if_pos c9] at H
         have c9b0 : decide (300 < (((rd_T28 l0 x3_1).f0.f1).size : Int)) = true := decide_eq_true c9
         have c9b1 : decide (300 < ((rd_T28 l0 x3_1).f0.f1).size) = true := decide_eq_true (by omega)
         clear c9
         obtain rfl := Option.some.inj H
         have p389 : 0 ≤ (x3_1 : Int) := od_
         have q389 : x3_1 < (l0.length : Int) := od_
         obtain ⟨ad389, e389, hx389_0, hx389_1, hx389_2, hx389_3⟩ := at_T28 HR0.out x3_1 p389 q389
         cases e389
         replace p389 := eq_true p389
         replace q389 := eq_true q389
         have p390 : 0 ≤ (x3_1 : Int) := od_
         have q390 : x3_1 < (l0.length : Int) := od_
         obtain ⟨ad390, e390, hx390_0, hx390_1, hx390_2, hx390_3⟩ := at_T28 HR0.out x3_1 p390 q390
         obtain rfl : ad389 = ad390 := (by injection e390)
         replace p390 := eq_true p390
         replace q390 := eq_true q390
         have p391 : 0 ≤ (x3_1 : Int) := od_
         have q391 : x3_1 < (l0.length : Int) := od_
         obtain ⟨ad391, e391, hx391_0, hx391_1, hx391_2, hx391_3⟩ := at_T28 HR0.out x3_1 p391 q391
         obtain rfl : ad389 = ad391 := (by injection e391)
         replace p391 := eq_true p391
         replace q391 := eq_true q391
         go_wp2
         go_ret
         exact ⟨eqs, drw⟩
        ·rw [if_neg c9] at H
         have c9b0 : decide (300 < (((rd_T28 l0 x3_1).f0.f1).size : Int)) = false := decide_eq_false c9
         have c9b1 : decide (300 < ((rd_T28 l0 x3_1).f0.f1).size) = false := decide_eq_false (by omega)
         clear c9
         have H' := Aside0.mk H
         clear H
         have p389 : 0 ≤ (x3_1 : Int) := od_
         have q389 : x3_1 < (l0.length : Int) := od_
         obtain ⟨ad389, e389, hx389_0, hx389_1, hx389_2, hx389_3⟩ := at_T28 HR0.out x3_1 p389 q389
         cases e389
         replace p389 := eq_true p389
         replace q389 := eq_true q389
         have p390 : 0 ≤ (x3_1 : Int) := od_
         have q390 : x3_1 < (l0.length : Int) := od_
         obtain ⟨ad390, e390, hx390_0, hx390_1, hx390_2, hx390_3⟩ := at_T28 HR0.out x3_1 p390 q390
         obtain rfl : ad389 = ad390 := (by injection e390)
         replace p390 := eq_true p390
         replace q390 := eq_true q390
         have p391 : 0 ≤ (x3_1 : Int) := od_
         have q391 : x3_1 < (l0.length : Int) := od_
         obtain ⟨ad391, e391, hx391_0, hx391_1, hx391_2, hx391_3⟩ := at_T28 HR0.out x3_1 p391 q391
         obtain rfl : ad389 = ad391 := (by injection e391)
         replace p391 := eq_true p391
         replace q391 := eq_true q391
         go_wp2
         go_roundg kj1
         case measure => have := HK1.out; have := HJ1.out; omega
         case rel => exact ⟨(wrap64 (x3_1 + 1)), eqs, H', ⟨by have := HK1.out; have := HJ1.out; omega⟩, drw⟩
     ·replace c4 := Bool.eq_false_iff.mpr c4
      subst c4
      rw [if_neg nft] at H
      obtain rfl := Option.some.inj H
      go_wp2
      go_ret
      exact ⟨eqs, drw⟩

/-! ### bulletinlaw23_To: function 16 -/
def bulletinlaw23_To.f (a0_0 : ByteArray) (a0_1 : ByteArray) (a0_2 : Int) (a0_3 : ByteArray) : Option (ByteArray × ByteArray × Int × ByteArray) := some (a0_0, a0_1, a0_2, a0_3)
set_option maxHeartbeats 8000000 in
set_option maxRecDepth 100000 in
theorem bulletinlaw23_To.calls (a0_0 : ByteArray) (a0_1 : ByteArray) (a0_2 : Int) (a0_3 : ByteArray) (r1 : ByteArray) (r2 : ByteArray) (r3 : Int) (r4 : ByteArray) (w : World) (h : bulletinlaw23_To.f a0_0 a0_1 a0_2 a0_3 = some (r1, r2, r3, r4)) :
    Calls Tryz.prog 16 #[.agg #[.string a0_0, .string a0_1, .int .i64 a0_2, .string a0_3]] w fun e w' => e = .returned (.agg #[.string r1, .string r2, .int .i64 r3, .string r4]) ∧ Below w.heap.size w w' := by
 have hu28 := Tryz.underlying28
 have hu34 := Tryz.underlying34
 have hu32 := Tryz.underlying32
 have HB := Aside0.mk (Below.refl w.heap.size w)
 unfold bulletinlaw23_To.f at h
 have H := h
 clear h
 simp only [Option.some.injEq, Prod.mk.injEq] at H
 obtain ⟨rfl, rfl, rfl, rfl⟩ := H
 go_enter Tryz.func16, Tryz.ntmps16
 go_wp2_with (first | ((with_reducible refine gate_dst (N := 1) rfl ?_); refine box_event ?hg (N := 1) ?hd (cs := #[.string a0_0, .string a0_1, .int .i64 a0_2, .string a0_3]) (t := 28) ?hr ?_; (case hd => rfl); (case hg => rfl); (case hr => first | (go_simp; done) | (go_simp; rfl)); intro gb392 hg w2 hbox hb; have BK392 := Aside0.mk (hbox); have GW392 : Aside0 (w.heap.size ≤ gb392) := gw_ hg; have GE392 : Aside0 (w.heap.size ≤ gb392) := gw_ hg; replace HB := Aside0.mk (below_step blw hb); clear hb hbox hg) | ((with_reducible refine gate_dst (N := 2) rfl ?_); refine box_event ?hg (N := 2) ?hd (cs := #[.string (⟨#[]⟩ : ByteArray), .string (⟨#[]⟩ : ByteArray), .int .i64 0, .string (⟨#[]⟩ : ByteArray)]) (t := 34) ?hr ?_; (case hd => rfl); (case hg => rfl); (case hr => first | (go_simp; done) | (go_simp; rfl)); intro gb393 hg w3 hbox hb; have BK393 := Aside0.mk (hbox); have GW393 : Aside0 (w.heap.size ≤ gb393) := gw_ hg; have GE393 : Aside0 (w.heap.size ≤ gb393) := gw_ hg; replace HB := Aside0.mk (below_step blw hb); have NB392_393 := Aside0.mk ((by rw [hg]; exact Nat.ne_of_lt (blk_lt (g := gb392) (o := .cells #[.string a0_0, .string a0_1, .int .i64 a0_2, .string a0_3] 28 (0, 0)) (bkw BK392)) : gb392 ≠ gb393)); have NB393_392 := Aside0.mk ((by rw [hg]; exact Nat.ne_of_gt (blk_lt (g := gb392) (o := .cells #[.string a0_0, .string a0_1, .int .i64 a0_2, .string a0_3] 28 (0, 0)) (bkw BK392)) : gb393 ≠ gb392)); replace BK392 := Aside0.mk (blk_below (g := gb392) (o := .cells #[.string a0_0, .string a0_1, .int .i64 a0_2, .string a0_3] 28 (0, 0)) (bkw BK392) hb); clear hb hbox hg; have hnb4 := NB392_393.out; have hnc4 := NB393_392.out; have hcz5_0 : w3.cell? ⟨gb392, 0, none⟩ = some (.string a0_0) := bk_ BK392; have hcz5_1 : w3.cell? ⟨gb392, 1, none⟩ = some (.string a0_1) := bk_ BK392; have hcz5_2 : w3.cell? ⟨gb392, 2, none⟩ = some (.int .i64 a0_2) := bk_ BK392; have hcz5_3 : w3.cell? ⟨gb392, 3, none⟩ = some (.string a0_3) := bk_ BK392; have hfz5_0 := blk_frozen BK392.out 0; have hfz5_1 := blk_frozen BK392.out 1; have hfz5_2 := blk_frozen BK392.out 2; have hfz5_3 := blk_frozen BK392.out 3; have hcz6_0 : w3.cell? ⟨gb393, 0, none⟩ = some (.string (⟨#[]⟩ : ByteArray)) := bk_ BK393; have hcz6_1 : w3.cell? ⟨gb393, 1, none⟩ = some (.string (⟨#[]⟩ : ByteArray)) := bk_ BK393; have hcz6_2 : w3.cell? ⟨gb393, 2, none⟩ = some (.int .i64 0) := bk_ BK393; have hcz6_3 : w3.cell? ⟨gb393, 3, none⟩ = some (.string (⟨#[]⟩ : ByteArray)) := bk_ BK393; have hfz6_0 := blk_frozen BK393.out 0; have hfz6_1 := blk_frozen BK393.out 1; have hfz6_2 := blk_frozen BK393.out 2; have hfz6_3 := blk_frozen BK393.out 3))
 refine bodyPost_ret (results_cell_row rfl _ _ gb393 34 #[.string a0_0, .string a0_1, .int .i64 a0_2, .string a0_3] (0, 0) _ rfl (by (with_reducible repeat (first | refine blk_drewN ?_ _ | refine blk_drew ?_ | refine blk_alloc ?_ _)); refine blk_put (cs := #[.string a0_0, .string a0_1, .int .i64 a0_2, .string (⟨#[]⟩ : ByteArray)]) ?_ 3 _ rfl; (with_reducible repeat (first | refine blk_drewN ?_ _ | refine blk_drew ?_ | refine blk_alloc ?_ _)); refine blk_put (cs := #[.string a0_0, .string a0_1, .int .i64 0, .string (⟨#[]⟩ : ByteArray)]) ?_ 2 _ rfl; (with_reducible repeat (first | refine blk_drewN ?_ _ | refine blk_drew ?_ | refine blk_alloc ?_ _)); refine blk_put (cs := #[.string a0_0, .string (⟨#[]⟩ : ByteArray), .int .i64 0, .string (⟨#[]⟩ : ByteArray)]) ?_ 1 _ rfl; (with_reducible repeat (first | refine blk_drewN ?_ _ | refine blk_drew ?_ | refine blk_alloc ?_ _)); refine blk_put (cs := #[.string (⟨#[]⟩ : ByteArray), .string (⟨#[]⟩ : ByteArray), .int .i64 0, .string (⟨#[]⟩ : ByteArray)]) ?_ 0 _ rfl; (with_reducible repeat (first | refine blk_drewN ?_ _ | refine blk_drew ?_ | refine blk_alloc ?_ _)); exact BK393.out) Tryz.underlying34 rfl (by kernel_rfl)) rfl ?_
 exact ⟨by first | rfl | (simp [errW_none, errW_some] <;> rfl) | (simp [*, errW_none, errW_some] <;> rfl), blw⟩

/-! ### bulletinref17_Lines: function 26 -/
def bulletinref17_Lines.l0 : Nat → ByteArray → List ByteArray → ByteArray → Int → Option (List ByteArray)
  | 0, _, _, _, _ => none
  | k + 1, x0, x3, x4, x5 => if x5 < (x0.size : Int) then (if 0 ≤ x5 then (if (bt x0 x5) = 13 then (if (wrap64 (x5 + 1)) < (x0.size : Int) then (if 0 ≤ (wrap64 (x5 + 1)) then (if (bt x0 (wrap64 (x5 + 1))) = 10 then (if x3.length < 8796093022208 then (bulletinref17_Lines.l0 k x0 (x3 ++ [x4]) (⟨#[]⟩ : ByteArray) (wrap64 ((wrap64 (x5 + 1)) + 1))) else (none)) else (if x5 ≤ (wrap64 (x5 + 1)) then (if (wrap64 (x5 + 1)) ≤ (x0.size : Int) then (if x4.size + ((x0.extract (x5 : Int).toNat ((wrap64 (x5 + 1)) : Int).toNat).size) ≤ 9223372036854775807 then (bulletinref17_Lines.l0 k x0 x3 (x4 ++ (x0.extract (x5 : Int).toNat ((wrap64 (x5 + 1)) : Int).toNat)) (wrap64 (x5 + 1))) else (none)) else (none)) else (none))) else (none)) else (if x5 ≤ (wrap64 (x5 + 1)) then (if (wrap64 (x5 + 1)) ≤ (x0.size : Int) then (if x4.size + ((x0.extract (x5 : Int).toNat ((wrap64 (x5 + 1)) : Int).toNat).size) ≤ 9223372036854775807 then (bulletinref17_Lines.l0 k x0 x3 (x4 ++ (x0.extract (x5 : Int).toNat ((wrap64 (x5 + 1)) : Int).toNat)) (wrap64 (x5 + 1))) else (none)) else (none)) else (none))) else (if x5 ≤ (wrap64 (x5 + 1)) then (if (wrap64 (x5 + 1)) ≤ (x0.size : Int) then (if x4.size + ((x0.extract (x5 : Int).toNat ((wrap64 (x5 + 1)) : Int).toNat).size) ≤ 9223372036854775807 then (bulletinref17_Lines.l0 k x0 x3 (x4 ++ (x0.extract (x5 : Int).toNat ((wrap64 (x5 + 1)) : Int).toNat)) (wrap64 (x5 + 1))) else (none)) else (none)) else (none))) else (none)) else (if x3.length < 8796093022208 then (some (x3 ++ [x4])) else (none))
def bulletinref17_Lines.f (k : Nat) (a0 : ByteArray) : Option (List ByteArray) := bulletinref17_Lines.l0 k a0 ([] : List ByteArray) (⟨#[]⟩ : ByteArray) 0
theorem bulletinref17_Lines.mono_l : ∀ k, (∀ y0 y1 y2 y3, LeO (bulletinref17_Lines.l0 k y0 y1 y2 y3) (bulletinref17_Lines.l0 (k + 1) y0 y1 y2 y3))
  | 0 => fun _ _ _ _ r h => by simp [bulletinref17_Lines.l0] at h
  | k + 1 => by
    have ih0 := bulletinref17_Lines.mono_l k
    · intro y0 y1 y2 y3
      unfold bulletinref17_Lines.l0
      repeat' first | (with_reducible first | exact ih0 _ _ _ _ | exact LeO.refl _ | exact LeO.none _ | refine LeO.ite ?_ ?_ | refine LeO.bind ?_ (fun _ => ?_)) | exact ih0 _ _ _ _ | exact LeO.none _ | refine LeO.ite ?_ ?_ | refine LeO.bind ?_ (fun _ => ?_)
theorem bulletinref17_Lines.mono : ∀ a0 k, LeO (bulletinref17_Lines.f k a0) (bulletinref17_Lines.f (k + 1) a0) := by
  intro a0 k
  have ih0 := bulletinref17_Lines.mono_l k
  unfold bulletinref17_Lines.f
  repeat' first | (with_reducible first | exact ih0 _ _ _ _ | exact LeO.refl _ | exact LeO.none _ | refine LeO.ite ?_ ?_ | refine LeO.bind ?_ (fun _ => ?_)) | exact ih0 _ _ _ _ | exact LeO.none _ | refine LeO.ite ?_ ?_ | refine LeO.bind ?_ (fun _ => ?_)
set_option maxHeartbeats 8000000 in
set_option maxRecDepth 100000 in
theorem bulletinref17_Lines.calls (k : Nat) (a0 : ByteArray) (r : List ByteArray) (w : World) (h : bulletinref17_Lines.f k a0 = some r) :
    Calls Tryz.prog 26 #[.string a0] w fun e w' => ∃ v0_ : Value, e = .returned (v0_) ∧ Kd.R Kd.string 9 w' w.heap.size (fun _ => True) v0_ r ∧ Below w.heap.size w w' := by
 have HB := Aside0.mk (Below.refl w.heap.size w)
 unfold bulletinref17_Lines.f at h
 have H := h
 clear h
 have H' := Aside0.mk H
 clear H
 go_enter Tryz.func26, Tryz.ntmps26
 go_wp2
 go_loopg [3, 4, 5] k (fun kq v3 v4 v5 w' => ∃ (x3_1 : List ByteArray) (x4_1 : ByteArray) (x5_1 : Int), v4 = .string x4_1 ∧ v5 = .int .i64 x5_1 ∧ Aside0 (bulletinref17_Lines.l0 kq a0 x3_1 x4_1 x5_1 = some r) ∧ Aside0 (kq ≤ k) ∧ Aside0 (Kd.R Kd.string 9 w' w.heap.size (fun _ => True) v3 x3_1) ∧ Aside0 (Below w.heap.size w w'))
 case atStart => exact ⟨(([] : List ByteArray)), ((⟨#[]⟩ : ByteArray)), (0), eqs, eqs, H', ⟨Nat.le_refl _⟩, ⟨by first | exact Kd.R_nil _ _ _ _ _ | exact Kd.N_nil _ _ _ _ _ | exact Kd.V_nil _ _ _ _ _ | exact Kd.Q_nil _ _ _ _ _ | exact Kd.S_nil _ _ _ _ _⟩, ⟨blw⟩⟩
 case round =>
  clear H'
  obtain ⟨x3_1, x4_1, x5_1, rfl, rfl, HA, HK1, HO_3, HB⟩ := hrel
  cases gk with
  | zero => exact absurd HA.out (by simp [bulletinref17_Lines.l0])
  | succ k1 =>
   have H := HA.out
   clear HA
   simp only [bulletinref17_Lines.l0] at H
   by_cases c2 : x5_1 < (a0.size : Int)
   ·rw [if_pos c2] at H
    have c2b0 := decide_eq_true c2
    clear c2
    obtain ⟨c3, H⟩ := iteS H
    have c3b0 := decide_eq_true c3
    clear c3
    by_cases c5 : (bt a0 x5_1) = 13
    ·rw [if_pos c5] at H
     have c5b0 := beq_iff_eq.mpr c5
     have c5b1 := bne_eq_false_iff_eq.mpr c5
     clear c5
     by_cases c6 : (wrap64 (x5_1 + 1)) < (a0.size : Int)
     ·rw [if_pos c6] at H
      have c6b0 := decide_eq_true c6
      clear c6
      obtain ⟨ji7, hji7⟩ : ∃ j_ : Int, (wrap64 (x5_1 + 1)) = j_ := ⟨_, rfl⟩
      replace H : (if 0 ≤ (ji7) then (if (bt a0 (ji7)) = 10 then (if x3_1.length < 8796093022208 then (bulletinref17_Lines.l0 k1 a0 (x3_1 ++ [x4_1]) (⟨#[]⟩ : ByteArray) (wrap64 ((ji7) + 1))) else (none)) else (if x5_1 ≤ (ji7) then (if (ji7) ≤ (a0.size : Int) then (if x4_1.size + ((a0.extract (x5_1 : Int).toNat ((ji7) : Int).toNat).size) ≤ 9223372036854775807 then (bulletinref17_Lines.l0 k1 a0 x3_1 (x4_1 ++ (a0.extract (x5_1 : Int).toNat ((ji7) : Int).toNat)) ji7) else (none)) else (none)) else (none))) else (none)) = some r := by first | (rw [hji7] at H; exact H) | (simp only [hji7] at H ⊢; exact H)
      (try rw [hji7] at c6b0)
      have hji7w : (IntKind.i64.wrap (x5_1 + 1)) = ji7 := (i64_w _).trans hji7
      obtain ⟨c8, H⟩ := iteS H
      have c8b0 := decide_eq_true c8
      clear c8
      by_cases c10 : (bt a0 (ji7)) = 10
      ·rw [if_pos c10] at H
       have c10b0 := beq_iff_eq.mpr c10
       have c10b1 := bne_eq_false_iff_eq.mpr c10
       clear c10
       obtain ⟨c11, H⟩ := iteS H
       have LMc11 := Aside0.mk c11
       clear c11
       obtain ⟨y394, hy394⟩ : ∃ y_ : List ByteArray, y_ = (x3_1 ++ [x4_1]) := ⟨_, rfl⟩
       replace H : (bulletinref17_Lines.l0 k1 a0 y394 (⟨#[]⟩ : ByteArray) (wrap64 ((ji7) + 1))) = some r := by first | (rw [hy394]; with_reducible exact H) | (have H2_ := (Option.bind_some _ _).symm.trans H; rw [hy394]; with_reducible exact H2_) | (have H2_ := (Option.bind_some _ _).symm.trans H; with_reducible exact H2_) | with_reducible exact H | (rw [hy394]; exact H) | exact H
       have Ny394 := Aside0.mk hy394
       clear hy394
       have H' := Aside0.mk H
       clear H
       have p4 : 0 ≤ (x5_1 : Int) := od_
       have q4 : x5_1 < (a0.size : Int) := od_
       have hx4 := bt_at a0 x5_1
       replace p4 := eq_true p4
       replace q4 := eq_true q4
       have p9 : 0 ≤ ((ji7) : Int) := od_
       have q9 : (ji7) < (a0.size : Int) := od_
       have hx9 := bt_at a0 (ji7)
       replace p9 := eq_true p9
       replace q9 := eq_true q9
       go_wp2_with (first | ((with_reducible refine gate_builtin (b := .append) (xs := #[.tmp 30, .tmp 32]) rfl ?_); (try (refine gate_guard (by rfl) ?_; dsimp only)); at_builtin; refine Kd.R_append Kd.string (w0 := w) w.heap.size rfl (.tmp 30) (.tmp 32) 47 9 (.string ⟨#[]⟩) 16 rfl Tryz.underlying47 info9 rfl (by decide) (by omega) u3 x3_1 x4_1 [.string x4_1] (fun _ => True) (fun _ => False) rfl rfl ?aP (fun _ hk => hk.elim) ?aF ?aO ?aB ?aS ?aL ?_; (case aP => exact rfl); (case aB => exact blw); (case aF => exact (fun _ _ => trivial)); (case aO => exact (by (with_reducible repeat (first | apply Kd.R_alloc | apply Kd.R_drewN | apply Kd.R_drew)); exact HO_3.out)); (case aS => exact (below_size blw)); (case aL => have := LMc11.out; omega); intro v395 w12 ho hb hg hat; rw [← Ny394.out] at ho; have n0_ := Aside0.mk (hb); have n1_ := Aside0.mk (ho); clear HB; clear HO_3; have HB := n0_; have HO396 := n1_; clear n0_ n1_; clear ho hb hg hat))
       go_roundg k1
       case measure => have := HK1.out; omega
       case rel => exact ⟨(y394), ((⟨#[]⟩ : ByteArray)), (wrap64 ((ji7) + 1)), eqs, (by first | rfl | (simp; done) | (simp only [← hji7] <;> (first | rfl | simp)) | (simp [*]; done)), H', ⟨by have := HK1.out; omega⟩, ⟨by (with_reducible repeat (first | apply Kd.R_alloc | apply Kd.R_drewN | apply Kd.R_drew)); exact HO396.out⟩, ⟨blw⟩⟩
      ·rw [if_neg c10] at H
       have c10b0 := beq_eq_false_iff_ne.mpr c10
       have c10b1 := bne_iff_ne.mpr c10
       have c13b0 := eq_true (od_ : 0 ≤ x5_1)
       obtain ⟨c14, H⟩ := iteS H
       have c14b0 := eq_true c14
       have c14b1 := decide_eq_true c14
       clear c14
       obtain ⟨c15, H⟩ := iteS H
       have c15b0 := eq_true c15
       have c15b1 := decide_eq_true c15
       clear c15
       obtain ⟨c16, H⟩ := iteS H
       have c16b0 := eq_true c16
       have c16b1 := decide_eq_true c16
       (try (have c16x := c16; simp only [ByteArray.size_extract, Nat.min_self] at c16x; have c16xb0 := eq_true c16x; have c16xb1 := decide_eq_true c16x; (try have c16xb2 := eq_false (Nat.not_lt.2 c16x)); clear c16x))
       try have c16b2 := eq_false (Nat.not_lt.2 c16)
       have H' := Aside0.mk H
       clear H
       have p4 : 0 ≤ (x5_1 : Int) := od_
       have q4 : x5_1 < (a0.size : Int) := od_
       have hx4 := bt_at a0 x5_1
       replace p4 := eq_true p4
       replace q4 := eq_true q4
       have p9 : 0 ≤ ((ji7) : Int) := od_
       have q9 : (ji7) < (a0.size : Int) := od_
       have hx9 := bt_at a0 (ji7)
       replace p9 := eq_true p9
       replace q9 := eq_true q9
       go_wp2
       go_roundg k1
       case measure => have := HK1.out; omega
       case rel => exact ⟨(x3_1), (x4_1 ++ (a0.extract (x5_1 : Int).toNat ((ji7) : Int).toNat)), (ji7), (by first | rfl | (simp; done) | (simp only [← hji7] <;> (first | rfl | simp)) | (simp [*]; done)), (by first | rfl | (simp; done) | (simp only [← hji7] <;> (first | rfl | simp)) | (simp [*]; done)), H', ⟨by have := HK1.out; omega⟩, ⟨by (with_reducible repeat (first | apply Kd.R_alloc | apply Kd.R_drewN | apply Kd.R_drew)); exact HO_3.out⟩, ⟨blw⟩⟩
     ·rw [if_neg c6] at H
      have c6b0 := decide_eq_false c6
      clear c6
      have c17b0 := eq_true (od_ : 0 ≤ x5_1)
      obtain ⟨c18, H⟩ := iteS H
      have c18b0 := eq_true c18
      have c18b1 := decide_eq_true c18
      obtain ⟨c19, H⟩ := iteS H
      have c19b0 := eq_true c19
      have c19b1 := decide_eq_true c19
      obtain ⟨c20, H⟩ := iteS H
      have c20b0 := eq_true c20
      have c20b1 := decide_eq_true c20
      (try (have c20x := c20; simp only [ByteArray.size_extract, Nat.min_self] at c20x; have c20xb0 := eq_true c20x; have c20xb1 := decide_eq_true c20x; (try have c20xb2 := eq_false (Nat.not_lt.2 c20x)); clear c20x))
      try have c20b2 := eq_false (Nat.not_lt.2 c20)
      have H' := Aside0.mk H
      clear H
      have p4 : 0 ≤ (x5_1 : Int) := od_
      have q4 : x5_1 < (a0.size : Int) := od_
      have hx4 := bt_at a0 x5_1
      replace p4 := eq_true p4
      replace q4 := eq_true q4
      go_wp2
      go_roundg k1
      case measure => have := HK1.out; omega
      case rel => exact ⟨(x3_1), (x4_1 ++ (a0.extract (x5_1 : Int).toNat ((wrap64 (x5_1 + 1)) : Int).toNat)), (wrap64 (x5_1 + 1)), eqs, eqs, H', ⟨by have := HK1.out; omega⟩, ⟨by (with_reducible repeat (first | apply Kd.R_alloc | apply Kd.R_drewN | apply Kd.R_drew)); exact HO_3.out⟩, ⟨blw⟩⟩
    ·rw [if_neg c5] at H
     have c5b0 := beq_eq_false_iff_ne.mpr c5
     have c5b1 := bne_iff_ne.mpr c5
     have c21b0 := eq_true (od_ : 0 ≤ x5_1)
     obtain ⟨c22, H⟩ := iteS H
     have c22b0 := eq_true c22
     have c22b1 := decide_eq_true c22
     obtain ⟨c23, H⟩ := iteS H
     have c23b0 := eq_true c23
     have c23b1 := decide_eq_true c23
     obtain ⟨c24, H⟩ := iteS H
     have c24b0 := eq_true c24
     have c24b1 := decide_eq_true c24
     (try (have c24x := c24; simp only [ByteArray.size_extract, Nat.min_self] at c24x; have c24xb0 := eq_true c24x; have c24xb1 := decide_eq_true c24x; (try have c24xb2 := eq_false (Nat.not_lt.2 c24x)); clear c24x))
     try have c24b2 := eq_false (Nat.not_lt.2 c24)
     have H' := Aside0.mk H
     clear H
     have p4 : 0 ≤ (x5_1 : Int) := od_
     have q4 : x5_1 < (a0.size : Int) := od_
     have hx4 := bt_at a0 x5_1
     replace p4 := eq_true p4
     replace q4 := eq_true q4
     go_wp2
     go_roundg k1
     case measure => have := HK1.out; omega
     case rel => exact ⟨(x3_1), (x4_1 ++ (a0.extract (x5_1 : Int).toNat ((wrap64 (x5_1 + 1)) : Int).toNat)), (wrap64 (x5_1 + 1)), eqs, eqs, H', ⟨by have := HK1.out; omega⟩, ⟨by (with_reducible repeat (first | apply Kd.R_alloc | apply Kd.R_drewN | apply Kd.R_drew)); exact HO_3.out⟩, ⟨blw⟩⟩
   ·rw [if_neg c2] at H
    have c2b0 := decide_eq_false c2
    clear c2
    obtain ⟨c25, H⟩ := iteS H
    have LMc25 := Aside0.mk c25
    clear c25
    obtain ⟨y397, hy397⟩ : ∃ y_ : List ByteArray, y_ = (x3_1 ++ [x4_1]) := ⟨_, rfl⟩
    replace H : (some y397) = some r := by first | (rw [hy397]; with_reducible exact H) | (have H2_ := (Option.bind_some _ _).symm.trans H; rw [hy397]; with_reducible exact H2_) | (have H2_ := (Option.bind_some _ _).symm.trans H; with_reducible exact H2_) | with_reducible exact H | (rw [hy397]; exact H) | exact H
    have Ny397 := Aside0.mk hy397
    clear hy397
    obtain rfl := Option.some.inj H
    go_wp2_with (first | ((with_reducible refine gate_builtin (b := .append) (xs := #[.tmp 43, .tmp 45]) rfl ?_); (try (refine gate_guard (by rfl) ?_; dsimp only)); at_builtin; refine Kd.R_append Kd.string (w0 := w) w.heap.size rfl (.tmp 43) (.tmp 45) 47 9 (.string ⟨#[]⟩) 16 rfl Tryz.underlying47 info9 rfl (by decide) (by omega) u3 x3_1 x4_1 [.string x4_1] (fun _ => True) (fun _ => False) rfl rfl ?aP (fun _ hk => hk.elim) ?aF ?aO ?aB ?aS ?aL ?_; (case aP => exact rfl); (case aB => exact blw); (case aF => exact (fun _ _ => trivial)); (case aO => exact (by (with_reducible repeat (first | apply Kd.R_alloc | apply Kd.R_drewN | apply Kd.R_drew)); exact HO_3.out)); (case aS => exact (below_size blw)); (case aL => have := LMc25.out; omega); intro v398 w26 ho hb hg hat; rw [← Ny397.out] at ho; have n0_ := Aside0.mk (hb); have n1_ := Aside0.mk (ho); clear HB; clear HO_3; have HB := n0_; have HO399 := n1_; clear n0_ n1_; clear ho hb hg hat))
    go_ret
    exact ⟨_, by first | rfl | (simp [errW_none, errW_some] <;> rfl) | (simp [*, errW_none, errW_some] <;> rfl), by (with_reducible repeat (first | apply Kd.R_alloc | apply Kd.R_drewN | apply Kd.R_drew)); exact HO399.out, blw⟩

end Go.Proofs.YtcpmoolpbeeedaaGreatDoor.Q
