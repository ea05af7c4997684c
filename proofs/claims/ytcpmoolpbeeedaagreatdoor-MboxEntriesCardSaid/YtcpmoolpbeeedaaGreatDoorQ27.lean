-- Written by a program of this session (wip/myprint) out of the translation, for YtcpmoolpbeeedaaGreatDoor.
import Derived.Test.YtcpmoolpbeeedaaGreatDoorQ0
import Derived.Test.YtcpmoolpbeeedaaGreatDoorQ8
import Derived.Test.YtcpmoolpbeeedaaGreatDoorQ10
import Derived.Test.YtcpmoolpbeeedaaGreatDoorQ19
import Derived.Test.YtcpmoolpbeeedaaGreatDoorQ24
import Derived.Test.YtcpmoolpbeeedaaGreatDoorQ26
namespace Go.Proofs.YtcpmoolpbeeedaaGreatDoor.Q
open Go.RowKit Go.Proofs.YtcpmoolpbeeedaaGreatDoorW.PrintWords Go.Proofs.YtcpmoolpbeeedaaGreatDoorW.PrintLast Go.Proofs.YtcpmoolpbeeedaaGreatDoorW.PrintMore Go.Proofs.YtcpmoolpbeeedaaGreatDoorW.PrintSq
attribute [local go_sem] max2_int min2_int max_two min_two max_three min_three max_four min_four   -- for this text's walks alone
set_option linter.unusedVariables false
set_option linter.unusedSimpArgs false

/-! ### bulletinlaw23_MboxEntries: function 4 -/
def bulletinlaw23_MboxEntries.f (k : Nat) (a0_0 : ByteArray) (a0_1 : ByteArray) (a0_2 : Int) (a0_3 : ByteArray) : Option (Bool) := (bulletinlaw23_light.f k (([(⟨(⟨a0_0, a0_1⟩ : S26), a0_2, a0_3⟩ : S28)] : List (S28)))).bind fun t494 => (if t494 = true then ((bulletinlaw23_To.f a0_0 a0_1 a0_2 a0_3).bind fun bt496 => ((mbox_Entry.f k bt496.1 bt496.2.1 bt496.2.2.1 bt496.2.2.2).bind fun t500 => ((bulletinref23_Entry.f k a0_0 a0_1 a0_2 a0_3).bind fun t501 => (if t500.toList = t501.toList then ((bulletinlaw23_To.f a0_0 a0_1 a0_2 a0_3).bind fun bt502 => ((mbox_Right.f k bt502.1 bt502.2.1 bt502.2.2.1 bt502.2.2.2).bind fun t506 => ((bulletinref23_Right.f k a0_0 a0_1 a0_2 a0_3).bind fun t507 => (if (t506 == t507) = true then ((bulletinlaw23_works.f k).bind fun t508 => (some t508)) else (none))))) else (none))))) else ((bulletinlaw23_works.f k).bind fun t495 => (some t495)))
theorem bulletinlaw23_MboxEntries.mono : ∀ a0 a1 a2 a3 k, LeO (bulletinlaw23_MboxEntries.f k a0 a1 a2 a3) (bulletinlaw23_MboxEntries.f (k + 1) a0 a1 a2 a3) := by
  intro a0 a1 a2 a3 k
  unfold bulletinlaw23_MboxEntries.f
  repeat' first | (with_reducible first | exact bulletinlaw23_light.mono _ _ | exact bulletinlaw23_works.mono _ | exact bulletinref23_Entry.mono _ _ _ _ _ | exact bulletinref23_Right.mono _ _ _ _ _ | exact mbox_Entry.mono _ _ _ _ _ | exact mbox_Right.mono _ _ _ _ _ | exact LeO.refl _ | exact LeO.none _ | refine LeO.ite ?_ ?_ | refine LeO.bind ?_ (fun _ => ?_)) | exact bulletinlaw23_light.mono _ _ | exact bulletinlaw23_works.mono _ | exact bulletinref23_Entry.mono _ _ _ _ _ | exact bulletinref23_Right.mono _ _ _ _ _ | exact mbox_Entry.mono _ _ _ _ _ | exact mbox_Right.mono _ _ _ _ _ | exact LeO.none _ | refine LeO.ite ?_ ?_ | refine LeO.bind ?_ (fun _ => ?_)
def bulletinlaw23_MboxEntries.T3 : Bool × List (List Nat × List Nat) := (true, [([], []), ([0], [0]), ([1, 1], [1]), ([], []), ([3, 2], [3]), ([2, 4], [2, 4]), ([5, 4], [5]), ([6], [6]), ([7, 6, 6], [6, 7]), ([8, 8, 6], [6, 8]), ([6], [6]), ([10, 9, 6], [6, 10]), ([9, 11, 6], [6, 9, 11]), ([6, 12], [6, 12]), ([13, 11], [13]), ([14, 14], [14]), ([14, 15], [14, 15]), ([16, 15, 0, 1, 2, 3, 4, 5, 6, 7, 8, 9, 10, 11, 12, 13, 14, 15, 16], [16])])
def bulletinlaw23_MboxEntries.B3 : List Nat := [0, 1, 3, 0, 15, 31, 63, 127, 255, 511, 127, 2047, 4095, 8191, 16383, 32767, 65535, 131071]
theorem bulletinlaw23_MboxEntries.tab3 : rtab .any (opsOf Tryz.f4 3) = bulletinlaw23_MboxEntries.T3 := by kernel_rfl
theorem bulletinlaw23_MboxEntries.bits3 : waitsOk bulletinlaw23_MboxEntries.T3.2 bulletinlaw23_MboxEntries.B3 = true := by kernel_rfl
set_option maxHeartbeats 8000000 in
set_option maxRecDepth 100000 in
theorem bulletinlaw23_MboxEntries.calls (k : Nat) (a0_0 : ByteArray) (a0_1 : ByteArray) (a0_2 : Int) (a0_3 : ByteArray) (r : Bool) (w : World) (hG : Amb w) (h : bulletinlaw23_MboxEntries.f k a0_0 a0_1 a0_2 a0_3 = some r) :
    Calls Tryz.prog 4 #[.agg #[.string a0_0, .string a0_1, .int .i64 a0_2, .string a0_3]] w fun e w' => e = .returned (.bool r) ∧ Below w.heap.size w w' := by
 have hu28 := Tryz.underlying28
 have HB := Aside0.mk (Below.refl w.heap.size w)
 unfold bulletinlaw23_MboxEntries.f at h
 have H := h
 clear h
 have HG := Aside0.mk hG
 clear hG
 obtain ⟨y491, hy491⟩ : ∃ y_ : List (S28), y_ = (([(⟨(⟨a0_0, a0_1⟩ : S26), a0_2, a0_3⟩ : S28)] : List (S28))) := ⟨_, rfl⟩
 replace H : ((bulletinlaw23_light.f k y491).bind fun t494 => (if t494 = true then ((bulletinlaw23_To.f a0_0 a0_1 a0_2 a0_3).bind fun bt496 => ((mbox_Entry.f k bt496.1 bt496.2.1 bt496.2.2.1 bt496.2.2.2).bind fun t500 => ((bulletinref23_Entry.f k a0_0 a0_1 a0_2 a0_3).bind fun t501 => (if t500.toList = t501.toList then ((bulletinlaw23_To.f a0_0 a0_1 a0_2 a0_3).bind fun bt502 => ((mbox_Right.f k bt502.1 bt502.2.1 bt502.2.2.1 bt502.2.2.2).bind fun t506 => ((bulletinref23_Right.f k a0_0 a0_1 a0_2 a0_3).bind fun t507 => (if (t506 == t507) = true then ((bulletinlaw23_works.f k).bind fun t508 => (some t508)) else (none))))) else (none))))) else ((bulletinlaw23_works.f k).bind fun t495 => (some t495)))) = some r := by first | (rw [hy491]; with_reducible exact H) | (have H2_ := (Option.bind_some _ _).symm.trans H; rw [hy491]; with_reducible exact H2_) | (have H2_ := (Option.bind_some _ _).symm.trans H; with_reducible exact H2_) | with_reducible exact H | (rw [hy491]; exact H) | exact H
 have Ny491 := Aside0.mk hy491
 clear hy491
 replace H := Option.bind_eq_some_iff.mp H
 obtain ⟨t494, A20, H⟩ := H
 try dsimp only at H
 have A2 := Aside0.mk A20
 clear A20
 by_cases c3 : t494 = true
 ·subst c3
  rw [if_pos rfl] at H
  replace H := Option.bind_eq_some_iff.mp H
  obtain ⟨⟨t496, t497, t498, t499⟩, A40, H⟩ := H
  try dsimp only at H
  have A4 := Aside0.mk A40
  clear A40
  replace H := Option.bind_eq_some_iff.mp H
  obtain ⟨t500, A50, H⟩ := H
  try dsimp only at H
  have A5 := Aside0.mk A50
  clear A50
  replace H := Option.bind_eq_some_iff.mp H
  obtain ⟨t501, A60, H⟩ := H
  try dsimp only at H
  have A6 := Aside0.mk A60
  clear A60
  obtain ⟨c7, H⟩ := iteS H
  have c7b0 := beq_iff_eq.mpr c7
  have c7b1 := bne_eq_false_iff_eq.mpr c7
  clear c7
  replace H := Option.bind_eq_some_iff.mp H
  obtain ⟨⟨t502, t503, t504, t505⟩, A80, H⟩ := H
  try dsimp only at H
  have A8 := Aside0.mk A80
  clear A80
  replace H := Option.bind_eq_some_iff.mp H
  obtain ⟨t506, A90, H⟩ := H
  try dsimp only at H
  have A9 := Aside0.mk A90
  clear A90
  replace H := Option.bind_eq_some_iff.mp H
  obtain ⟨t507, A100, H⟩ := H
  try dsimp only at H
  have A10 := Aside0.mk A100
  clear A100
  obtain ⟨c11, H⟩ := iteS H
  have c11b0 : (t506 == t507) = true := c11
  (try (have c11b1 : decide (t506 = t507) = true := by simpa using c11))
  (try (have c11b2 : (t506 == t507) = true := by simpa using c11))
  clear c11
  replace H := Option.bind_eq_some_iff.mp H
  obtain ⟨t508, A120, H⟩ := H
  try dsimp only at H
  have A12 := Aside0.mk A120
  clear A120
  obtain rfl := Option.some.inj H
  go_enter Tryz.func4, Tryz.ntmps4
  try go_wp2_with (first | ((with_reducible refine gate_dst (N := 1) rfl ?_); refine box_event ?hg (N := 1) ?hd (cs := #[.string a0_0, .string a0_1, .int .i64 a0_2, .string a0_3]) (t := 28) ?hr ?_; (case hd => rfl); (case hg => rfl); (case hr => first | (go_simp; done) | (go_simp; rfl)); intro gb490 hg w13 hbox hb; have BK490 := Aside0.mk (hbox); have GW490 : Aside0 (w.heap.size ≤ gb490) := gw_ hg; have GE490 : Aside0 (w.heap.size ≤ gb490) := gw_ hg; replace HB := Aside0.mk (below_step blw hb); clear hb hbox hg; have hcz14_0 : w13.cell? ⟨gb490, 0, none⟩ = some (.string a0_0) := bk_ BK490; have hcz14_1 : w13.cell? ⟨gb490, 1, none⟩ = some (.string a0_1) := bk_ BK490; have hcz14_2 : w13.cell? ⟨gb490, 2, none⟩ = some (.int .i64 a0_2) := bk_ BK490; have hcz14_3 : w13.cell? ⟨gb490, 3, none⟩ = some (.string a0_3) := bk_ BK490; have hfz14_0 := blk_frozen BK490.out 0; have hfz14_1 := blk_frozen BK490.out 1; have hfz14_2 := blk_frozen BK490.out 2; have hfz14_3 := blk_frozen BK490.out 3) | ((with_reducible refine gate_dst (N := 4) rfl ?_); refine Kd.R_lit k28 _ 28 ?hg (N := 4) ?hd (xs := ([(⟨(⟨a0_0, a0_1⟩ : S26), a0_2, a0_3⟩ : S28)] : List (S28))) (inner := [.string a0_0, .string a0_1, .int .i64 a0_2, .string a0_3]) (ok := fun _ => True) (okp := fun _ => True) ?hr ?hp (fun _ hk => hk) trivial (Below.refl _ _) (Nat.le_refl _) (by simp) ?_; (case hd => rfl); (case hg => rfl); (case hr => first | (go_simp; done) | (go_simp; rfl)); (case hp => exact (Reps.c4 (show Kd.M k28 _ _ _ (⟨(⟨a0_0, a0_1⟩ : S26), a0_2, a0_3⟩ : S28) [.string a0_0, .string a0_1, .int .i64 a0_2, .string a0_3] from (k28_mkM _ _ _ (⟨(⟨a0_0, a0_1⟩ : S26), a0_2, a0_3⟩ : S28) )) (Reps.none _ _))); intro v492 w15 ho16 hb hg_ hnew_; clear hg_ hnew_; (first | rw [← Ny491.out] at ho16 | (simp only [Int.reduceToNat] at ho16; rw [← Ny491.out] at ho16)); have HO493 := Aside0.mk (Kd.R_lower (Kd.R_newB ho16 (g := gb490) (o := .cells #[.string a0_0, .string a0_1, .int .i64 a0_2, .string a0_3] 28 (0, 0)) (bkw BK490)) (below_size blw)); replace BK490 := Aside0.mk (blk_below (g := gb490) (o := .cells #[.string a0_0, .string a0_1, .int .i64 a0_2, .string a0_3] 28 (0, 0)) (bkw BK490) hb); replace HB := Aside0.mk (below_step blw hb); clear hb ho16; obtain ⟨Ao17, co17, eo17⟩ := Kd.R_slice HO493.out; subst eo17) | ((with_reducible refine gc 14 rfl ?_); refine gl_ (some 5) Tryz.func14 #[.slice Ao17 y491.length co17] ?_; (with_reducible refine (bulletinlaw23_light.calls k _ _ y491 true _ ?side1 ?side2 A2.out).mono ?_); (case side1 => repeat (first | exact (Kd.R_reads' HO493.out).2.2 | (with_reducible refine Kd.C_alloc ?_ _) | (with_reducible refine Kd.C_drewN ?_ _) | (with_reducible refine Kd.C_drew ?_))); (case side2 => exact (Kd.R_reads' HO493.out).2.1); rintro e w' ⟨rfl, ⟨nd, rfl⟩⟩; refine ⟨_, rfl, ?_⟩))
  (try (rw [drewN_self w15]; generalize hq_ : World.drewN w15 _ = w15; have n0_ : Aside0 (Kd.R k28 28 w15 w.heap.size (fun k_ => k_ ≠ gb490) (.slice Ao17 y491.length co17) y491) := ⟨by rw [← hq_]; exact (by (with_reducible repeat (first | apply Kd.R_alloc | apply Kd.R_drewN | apply Kd.R_drew)); exact Kd.R_mono HO493.out (fun _ hk => hk.2))⟩; have n1_ : Aside0 (w15.heap[gb490]? = some (.cells #[.string a0_0, .string a0_1, .int .i64 a0_2, .string a0_3] 28 (0, 0))) := ⟨by rw [← hq_]; exact (bkw BK490)⟩; have n2_ : Aside0 (Below w.heap.size w w15) := ⟨by rw [← hq_]; exact blw⟩; clear HO493 BK490 HB hq_; have HO493 := n0_; have BK490 := n1_; have HB := n2_; clear n0_ n1_ n2_))
  replace HO493 := Aside0.mk (Kd.R_drew HO493.out)
  replace BK490 := Aside0.mk (blk_drew BK490.out)
  replace HB := Aside0.mk (below_drew1 HB.out)
  refine start_ (n := 18) (S := fun w' => w'.cell? ⟨gb490, 0, none⟩ = some (.string a0_0) ∧ w'.cell? ⟨gb490, 1, none⟩ = some (.string a0_1) ∧ w'.cell? ⟨gb490, 2, none⟩ = some (.int .i64 a0_2) ∧ w'.cell? ⟨gb490, 3, none⟩ = some (.string a0_3)) (ds := []) (ba 18 0) (by kernel_rfl) rfl rfl ⟨bk_ BK490, bk_ BK490, bk_ BK490, bk_ BK490⟩ (fun hHeld => ?_); refine with_tabW bulletinlaw23_MboxEntries.tab3 bulletinlaw23_MboxEntries.bits3 (fun HT_ HW_ => ?_)
  generalize w15.drew = w18 at HO493 BK490 HB hHeld ⊢
  refine tk_ 0 8 1 hHeld ?_
  refine tk_ 3 11 9 hHeld ?_
  refine one1 1 (some 9) 11 (fun K hK => ?_)
  refine go1 Tryz.func16 #[.agg #[.string a0_0, .string a0_1, .int .i64 a0_2, .string a0_3]] ?_
  with_reducible refine (bulletinlaw23_To.calls a0_0 a0_1 a0_2 a0_3 t496 t497 t498 t499 _ A4.out).mono ?_
  rintro e w19 ⟨rfl, hb⟩
  refine ⟨_, rfl, ?_⟩
  replace HO493 := Aside0.mk (Kd.R_below (by (with_reducible repeat (first | apply Kd.R_alloc | apply Kd.R_drewN | apply Kd.R_drew)); exact HO493.out) hb)
  replace BK490 := Aside0.mk (blk_below (g := gb490) (o := .cells #[.string a0_0, .string a0_1, .int .i64 a0_2, .string a0_3] 28 (0, 0)) (bkw BK490) hb)
  replace HB := Aside0.mk (below_step blw hb)
  (try clear hb)
  refine hK.out _ _ ⟨bk_ BK490, bk_ BK490, bk_ BK490, bk_ BK490⟩ (fun hHeld => ?_)
  clear hK K
  refine nm_ (some 9) ?_
  refine one1 2 (some 10) 15 (fun K hK => ?_)
  refine go1 Tryz.func15 #[.agg #[.string t496, .string t497, .int .i64 t498, .string t499]] ?_
  with_reducible refine (mbox_Entry.calls k t496 t497 t498 t499 t500 _ ?side1 A5.out).mono ?_
  (case side1 => exact Amb.at HG.out blw)
  rintro e w20 ⟨rfl, hb⟩
  refine ⟨_, rfl, ?_⟩
  replace HO493 := Aside0.mk (Kd.R_below (by (with_reducible repeat (first | apply Kd.R_alloc | apply Kd.R_drewN | apply Kd.R_drew)); exact HO493.out) hb)
  replace BK490 := Aside0.mk (blk_below (g := gb490) (o := .cells #[.string a0_0, .string a0_1, .int .i64 a0_2, .string a0_3] 28 (0, 0)) (bkw BK490) hb)
  replace HB := Aside0.mk (below_step blw hb)
  (try clear hb)
  refine hK.out _ _ ⟨bk_ BK490, bk_ BK490, bk_ BK490, bk_ BK490⟩ (fun hHeld => ?_)
  clear hK K
  refine nm_ (some 10) ?_
  refine one1 4 (some 12) 31 (fun K hK => ?_)
  refine go1 Tryz.func17 #[.agg #[.string a0_0, .string a0_1, .int .i64 a0_2, .string a0_3]] ?_
  with_reducible refine (bulletinref23_Entry.calls k a0_0 a0_1 a0_2 a0_3 t501 _ A6.out).mono ?_
  rintro e w21 ⟨rfl, hb⟩
  refine ⟨_, rfl, ?_⟩
  replace HO493 := Aside0.mk (Kd.R_below (by (with_reducible repeat (first | apply Kd.R_alloc | apply Kd.R_drewN | apply Kd.R_drew)); exact HO493.out) hb)
  replace BK490 := Aside0.mk (blk_below (g := gb490) (o := .cells #[.string a0_0, .string a0_1, .int .i64 a0_2, .string a0_3] 28 (0, 0)) (bkw BK490) hb)
  replace HB := Aside0.mk (below_step blw hb)
  (try clear hb)
  refine hK.out _ _ ⟨bk_ BK490, bk_ BK490, bk_ BK490, bk_ BK490⟩ (fun hHeld => ?_)
  clear hK K
  refine nm_ (some 12) ?_
  refine pu_ 5 13 63 ?_
  refine pu_ 6 14 127 ?_
  refine tk_ 7 15 255 hHeld ?_
  refine tk_ 10 18 1279 hHeld ?_
  refine one1 8 (some 16) 1535 (fun K hK => ?_)
  refine go1 Tryz.func16 #[.agg #[.string a0_0, .string a0_1, .int .i64 a0_2, .string a0_3]] ?_
  with_reducible refine (bulletinlaw23_To.calls a0_0 a0_1 a0_2 a0_3 t502 t503 t504 t505 _ A8.out).mono ?_
  rintro e w22 ⟨rfl, hb⟩
  refine ⟨_, rfl, ?_⟩
  replace HO493 := Aside0.mk (Kd.R_below (by (with_reducible repeat (first | apply Kd.R_alloc | apply Kd.R_drewN | apply Kd.R_drew)); exact HO493.out) hb)
  replace BK490 := Aside0.mk (blk_below (g := gb490) (o := .cells #[.string a0_0, .string a0_1, .int .i64 a0_2, .string a0_3] 28 (0, 0)) (bkw BK490) hb)
  replace HB := Aside0.mk (below_step blw hb)
  (try clear hb)
  refine hK.out _ _ ⟨bk_ BK490, bk_ BK490, bk_ BK490, bk_ BK490⟩ (fun hHeld => ?_)
  clear hK K
  refine nm_ (some 16) ?_
  refine one1 9 (some 17) 2047 (fun K hK => ?_)
  refine go1 Tryz.func18 #[.agg #[.string t502, .string t503, .int .i64 t504, .string t505]] ?_
  with_reducible refine (mbox_Right.calls k t502 t503 t504 t505 t506 _ A9.out).mono ?_
  rintro e w23 ⟨rfl, hb⟩
  refine ⟨_, rfl, ?_⟩
  replace HO493 := Aside0.mk (Kd.R_below (by (with_reducible repeat (first | apply Kd.R_alloc | apply Kd.R_drewN | apply Kd.R_drew)); exact HO493.out) hb)
  replace BK490 := Aside0.mk (blk_below (g := gb490) (o := .cells #[.string a0_0, .string a0_1, .int .i64 a0_2, .string a0_3] 28 (0, 0)) (bkw BK490) hb)
  replace HB := Aside0.mk (below_step blw hb)
  (try clear hb)
  refine hK.out _ _ ⟨bk_ BK490, bk_ BK490, bk_ BK490, bk_ BK490⟩ (fun hHeld => ?_)
  clear hK K
  refine nm_ (some 17) ?_
  refine one1 11 (some 19) 4095 (fun K hK => ?_)
  refine go1 Tryz.func19 #[.agg #[.string a0_0, .string a0_1, .int .i64 a0_2, .string a0_3]] ?_
  with_reducible refine (bulletinref23_Right.calls k a0_0 a0_1 a0_2 a0_3 t507 _ A10.out).mono ?_
  rintro e w24 ⟨rfl, hb⟩
  refine ⟨_, rfl, ?_⟩
  replace HO493 := Aside0.mk (Kd.R_below (by (with_reducible repeat (first | apply Kd.R_alloc | apply Kd.R_drewN | apply Kd.R_drew)); exact HO493.out) hb)
  replace BK490 := Aside0.mk (blk_below (g := gb490) (o := .cells #[.string a0_0, .string a0_1, .int .i64 a0_2, .string a0_3] 28 (0, 0)) (bkw BK490) hb)
  replace HB := Aside0.mk (below_step blw hb)
  (try clear hb)
  refine hK.out _ _ ⟨bk_ BK490, bk_ BK490, bk_ BK490, bk_ BK490⟩ (fun hHeld => ?_)
  clear hK K
  refine nm_ (some 19) ?_
  refine pu_ 12 20 8191 ?_
  refine pu_ 13 21 16383 ?_
  refine pu_ 14 22 32767 ?_
  refine one1 15 (some 23) 65535 (fun K hK => ?_)
  refine go1 Tryz.func9 #[] ?_
  with_reducible refine (bulletinlaw23_works.calls k  t508 _ ?side1 A12.out).mono ?_
  (case side1 => exact Amb.at HG.out blw)
  rintro e w25 ⟨rfl, hb⟩
  refine ⟨_, rfl, ?_⟩
  replace HO493 := Aside0.mk (Kd.R_below (by (with_reducible repeat (first | apply Kd.R_alloc | apply Kd.R_drewN | apply Kd.R_drew)); exact HO493.out) hb)
  replace BK490 := Aside0.mk (blk_below (g := gb490) (o := .cells #[.string a0_0, .string a0_1, .int .i64 a0_2, .string a0_3] 28 (0, 0)) (bkw BK490) hb)
  replace HB := Aside0.mk (below_step blw hb)
  (try clear hb)
  refine hK.out _ _ ⟨bk_ BK490, bk_ BK490, bk_ BK490, bk_ BK490⟩ (fun hHeld => ?_)
  clear hK K
  refine nm_ (some 23) ?_
  refine pu_ 16 24 131071 ?_
  refine pu_ 17 2 262143 ?_
  refine done_ (done_of HT_.out (by kernel_rfl)) ?_
  try go_wp2
  go_ret
  exact ⟨by first | rfl | (simp [errW_none, errW_some] <;> rfl) | (simp [*, errW_none, errW_some] <;> rfl), blw⟩
 ·replace c3 := Bool.eq_false_iff.mpr c3
  subst c3
  rw [if_neg nft] at H
  replace H := Option.bind_eq_some_iff.mp H
  obtain ⟨t495, A260, H⟩ := H
  try dsimp only at H
  have A26 := Aside0.mk A260
  clear A260
  obtain rfl := Option.some.inj H
  go_enter Tryz.func4, Tryz.ntmps4
  go_wp2_with (first | ((with_reducible refine gate_dst (N := 1) rfl ?_); refine box_event ?hg (N := 1) ?hd (cs := #[.string a0_0, .string a0_1, .int .i64 a0_2, .string a0_3]) (t := 28) ?hr ?_; (case hd => rfl); (case hg => rfl); (case hr => first | (go_simp; done) | (go_simp; rfl)); intro gb490 hg w27 hbox hb; have BK490 := Aside0.mk (hbox); have GW490 : Aside0 (w.heap.size ≤ gb490) := gw_ hg; have GE490 : Aside0 (w.heap.size ≤ gb490) := gw_ hg; replace HB := Aside0.mk (below_step blw hb); clear hb hbox hg; have hcz28_0 : w27.cell? ⟨gb490, 0, none⟩ = some (.string a0_0) := bk_ BK490; have hcz28_1 : w27.cell? ⟨gb490, 1, none⟩ = some (.string a0_1) := bk_ BK490; have hcz28_2 : w27.cell? ⟨gb490, 2, none⟩ = some (.int .i64 a0_2) := bk_ BK490; have hcz28_3 : w27.cell? ⟨gb490, 3, none⟩ = some (.string a0_3) := bk_ BK490; have hfz28_0 := blk_frozen BK490.out 0; have hfz28_1 := blk_frozen BK490.out 1; have hfz28_2 := blk_frozen BK490.out 2; have hfz28_3 := blk_frozen BK490.out 3) | ((with_reducible refine gate_dst (N := 4) rfl ?_); refine Kd.R_lit k28 _ 28 ?hg (N := 4) ?hd (xs := ([(⟨(⟨a0_0, a0_1⟩ : S26), a0_2, a0_3⟩ : S28)] : List (S28))) (inner := [.string a0_0, .string a0_1, .int .i64 a0_2, .string a0_3]) (ok := fun _ => True) (okp := fun _ => True) ?hr ?hp (fun _ hk => hk) trivial (Below.refl _ _) (Nat.le_refl _) (by simp) ?_; (case hd => rfl); (case hg => rfl); (case hr => first | (go_simp; done) | (go_simp; rfl)); (case hp => exact (Reps.c4 (show Kd.M k28 _ _ _ (⟨(⟨a0_0, a0_1⟩ : S26), a0_2, a0_3⟩ : S28) [.string a0_0, .string a0_1, .int .i64 a0_2, .string a0_3] from (k28_mkM _ _ _ (⟨(⟨a0_0, a0_1⟩ : S26), a0_2, a0_3⟩ : S28) )) (Reps.none _ _))); intro v492 w29 ho30 hb hg_ hnew_; clear hg_ hnew_; (first | rw [← Ny491.out] at ho30 | (simp only [Int.reduceToNat] at ho30; rw [← Ny491.out] at ho30)); have HO493 := Aside0.mk (Kd.R_lower (Kd.R_newB ho30 (g := gb490) (o := .cells #[.string a0_0, .string a0_1, .int .i64 a0_2, .string a0_3] 28 (0, 0)) (bkw BK490)) (below_size blw)); replace BK490 := Aside0.mk (blk_below (g := gb490) (o := .cells #[.string a0_0, .string a0_1, .int .i64 a0_2, .string a0_3] 28 (0, 0)) (bkw BK490) hb); replace HB := Aside0.mk (below_step blw hb); clear hb ho30; obtain ⟨Ao31, co31, eo31⟩ := Kd.R_slice HO493.out; subst eo31) | ((with_reducible refine gc 14 rfl ?_); refine gl_ (some 5) Tryz.func14 #[.slice Ao31 y491.length co31] ?_; (with_reducible refine (bulletinlaw23_light.calls k _ _ y491 false _ ?side1 ?side2 A2.out).mono ?_); (case side1 => repeat (first | exact (Kd.R_reads' HO493.out).2.2 | (with_reducible refine Kd.C_alloc ?_ _) | (with_reducible refine Kd.C_drewN ?_ _) | (with_reducible refine Kd.C_drew ?_))); (case side2 => exact (Kd.R_reads' HO493.out).2.1); rintro e w' ⟨rfl, ⟨nd, rfl⟩⟩; refine ⟨_, rfl, ?_⟩) | ((with_reducible refine gc 9 rfl ?_); refine cl_ (some 7) Tryz.func9 (bulletinlaw23_works.calls k  t495 _ (Amb.at HG.out blw) A26.out) ?_; rintro w32 hb; replace HO493 := Aside0.mk (Kd.R_below (by (with_reducible repeat (first | apply Kd.R_alloc | apply Kd.R_drewN | apply Kd.R_drew)); exact HO493.out) hb); replace BK490 := Aside0.mk (blk_below (g := gb490) (o := .cells #[.string a0_0, .string a0_1, .int .i64 a0_2, .string a0_3] 28 (0, 0)) (bkw BK490) hb); replace HB := Aside0.mk (below_step blw hb); (try clear hb)))
  go_ret
  exact ⟨by first | rfl | (simp [errW_none, errW_some] <;> rfl) | (simp [*, errW_none, errW_some] <;> rfl), blw⟩

end Go.Proofs.YtcpmoolpbeeedaaGreatDoor.Q
