-- Written by a program of this session (wip/myprint) out of the translation, for YtcgfaagadejpmaaGreatDoor.
import Derived.Test.YtcgfaagadejpmaaGreatDoorQ0
import Derived.Test.YtcgfaagadejpmaaGreatDoorQ1
import Derived.Test.YtcgfaagadejpmaaGreatDoorQ4
import Derived.Test.YtcgfaagadejpmaaGreatDoorQ5
import Derived.Test.YtcgfaagadejpmaaGreatDoorQ14
import Derived.Maps.OwnIn
import Derived.Deep.AppendLies
namespace Go.Proofs.YtcgfaagadejpmaaGreatDoor.Q
open Go.RowKit Go.Proofs.YtcgfaagadejpmaaGreatDoorW.PrintWords Go.Proofs.YtcgfaagadejpmaaGreatDoorW.PrintLast Go.Proofs.YtcgfaagadejpmaaGreatDoorW.PrintMore Go.Proofs.YtcgfaagadejpmaaGreatDoorW.PrintSq
attribute [local go_sem] max2_int min2_int max_two min_two max_three min_three max_four min_four   -- for this text's walks alone
set_option linter.unusedVariables false
set_option linter.unusedSimpArgs false

attribute [local go_sem high] eqA28
/-! ### script_line: function 23 -/
def script_line.j0 : Nat → Int → Int → List ByteArray → Option (Int × ByteArray × ByteArray × ByteArray × Int × Int)
  | 0, _, _, _ => none
  | k + 1, x7, x8, x9 => if (x9.length : Int) = x8 then ((script_step.f k x7 x9).bind fun bt289 => (if bt289.2.2.2.2.2 = true then (some (bt289.1, bt289.2.1, bt289.2.2.1, bt289.2.2.2.1, bt289.2.2.2.2.1, 0)) else (some (0, (⟨#[]⟩ : ByteArray), (⟨#[]⟩ : ByteArray), (⟨#[]⟩ : ByteArray), 0, 3)))) else (some (0, (⟨#[]⟩ : ByteArray), (⟨#[]⟩ : ByteArray), (⟨#[]⟩ : ByteArray), 0, 3))
def script_line.f (k : Nat) (a0 : ByteArray) : Option (Int × ByteArray × ByteArray × ByteArray × Int × Int) := (strings_Cut.f a0 (⟨#[32]⟩ : ByteArray)).bind fun bt281 => ((script_known.f bt281.1).bind fun t284 => (if t284 = 0 then (some (0, (⟨#[]⟩ : ByteArray), (⟨#[]⟩ : ByteArray), (⟨#[]⟩ : ByteArray), 0, 270)) else ((script_count.f t284).bind fun t285 => (if bt281.2.2 = true then ((strings_SplitN.f bt281.2.1 (⟨#[32]⟩ : ByteArray) (mx t285 1)).bind fun t286 => (script_line.j0 k t284 t285 t286)) else (script_line.j0 k t284 t285 ([] : List ByteArray))))))
theorem script_line.mono_l : ∀ k, (∀ y0 y1 y2, LeO (script_line.j0 k y0 y1 y2) (script_line.j0 (k + 1) y0 y1 y2))
  | 0 => fun _ _ _ r h => by simp [script_line.j0] at h
  | k + 1 => by
    have ih0 := script_line.mono_l k
    · intro y0 y1 y2
      unfold script_line.j0
      repeat' first | (with_reducible first | exact ih0 _ _ _ | exact script_step.mono _ _ _ | exact LeO.refl _ | exact LeO.none _ | refine LeO.ite ?_ ?_ | refine LeO.bind ?_ (fun _ => ?_)) | exact ih0 _ _ _ | exact script_step.mono _ _ _ | exact LeO.none _ | refine LeO.ite ?_ ?_ | refine LeO.bind ?_ (fun _ => ?_)
theorem script_line.mono : ∀ a0 k, LeO (script_line.f k a0) (script_line.f (k + 1) a0) := by
  intro a0 k
  have ih0 := script_line.mono_l k
  unfold script_line.f
  repeat' first | (with_reducible first | exact ih0 _ _ _ | exact script_step.mono _ _ _ | exact LeO.refl _ | exact LeO.none _ | refine LeO.ite ?_ ?_ | refine LeO.bind ?_ (fun _ => ?_)) | exact ih0 _ _ _ | exact script_step.mono _ _ _ | exact LeO.none _ | refine LeO.ite ?_ ?_ | refine LeO.bind ?_ (fun _ => ?_)
set_option maxHeartbeats 8000000 in
set_option maxRecDepth 100000 in
theorem script_line.calls (k : Nat) (a0 : ByteArray) (r1 : Int) (r2 : ByteArray) (r3 : ByteArray) (r4 : ByteArray) (r5 : Int) (r6 : Int) (w : World) (hG : Amb w) (h : script_line.f k a0 = some (r1, r2, r3, r4, r5, r6)) :
    Calls Tryz.prog 23 #[.string a0] w fun e w' => e = .returned (.tuple #[.agg #[.int .i64 r1, .string r2, .string r3, .string r4, .int .i64 r5], .int .i64 r6]) ∧ Below w.heap.size w w' := by
 have hu28 := Tryz.underlying28
 have HB := Aside0.mk (Below.refl w.heap.size w)
 unfold script_line.f at h
 have H := h
 clear h
 have HG := Aside0.mk hG
 clear hG
 replace H := Option.bind_eq_some_iff.mp H
 obtain ⟨⟨t281, t282, t283⟩, A20, H⟩ := H
 try dsimp only at H
 have A2 := Aside0.mk A20
 clear A20
 replace H := Option.bind_eq_some_iff.mp H
 obtain ⟨t284, A30, H⟩ := H
 try dsimp only at H
 have A3 := Aside0.mk A30
 clear A30
 by_cases c4 : t284 = 0
 ·rw [if_pos c4] at H
  have c4b0 := beq_iff_eq.mpr c4
  have c4b1 := bne_eq_false_iff_eq.mpr c4
  clear c4
  simp only [Option.some.injEq, Prod.mk.injEq] at H
  obtain ⟨rfl, rfl, rfl, rfl, rfl, rfl⟩ := H
  go_enter Tryz.func23, Tryz.ntmps23
  go_wp2_with (first | ((with_reducible refine gate_dst (N := 2) rfl ?_); refine box_event ?hg (N := 2) ?hd (cs := #[.int .i64 0, .string (⟨#[]⟩ : ByteArray), .string (⟨#[]⟩ : ByteArray), .string (⟨#[]⟩ : ByteArray), .int .i64 0]) (t := 28) ?hr ?_; (case hd => rfl); (case hg => rfl); (case hr => first | (go_simp; done) | (go_simp; rfl)); intro gb280 hg w5 hbox hb; have BK280 := Aside0.mk (hbox); have GW280 : Aside0 (w.heap.size ≤ gb280) := gw_ hg; have GE280 : Aside0 (w.heap.size ≤ gb280) := gw_ hg; replace HB := Aside0.mk (below_step blw hb); clear hb hbox hg) | ((with_reducible refine gc 29 rfl ?_); refine cl_ (some 14) Tryz.func29 (strings_Cut.calls a0 (⟨#[32]⟩ : ByteArray) t281 t282 t283 _ (Amb.at HG.out blw) A2.out) ?_; rintro w' ⟨nd, rfl⟩; (try (rw [drewN_self w5]; generalize hq_ : World.drewN w5 _ = w5; have n0_ : Aside0 (w5.heap[gb280]? = some (.cells #[.int .i64 0, .string (⟨#[]⟩ : ByteArray), .string (⟨#[]⟩ : ByteArray), .string (⟨#[]⟩ : ByteArray), .int .i64 0] 28 (0, 0))) := ⟨by rw [← hq_]; exact (bkw BK280)⟩; have n1_ : Aside0 (Below w.heap.size w w5) := ⟨by rw [← hq_]; exact blw⟩; clear BK280 HB hq_; have BK280 := n0_; have HB := n1_; clear n0_ n1_))) | ((with_reducible refine gc 30 rfl ?_); refine cl_ (some 19) Tryz.func30 (script_known.calls t281 t284 _ (Amb.at HG.out blw) A3.out) ?_; rintro w' ⟨nd, rfl⟩; (try (rw [drewN_self w5]; generalize hq_ : World.drewN w5 _ = w5; have n0_ : Aside0 (w5.heap[gb280]? = some (.cells #[.int .i64 0, .string (⟨#[]⟩ : ByteArray), .string (⟨#[]⟩ : ByteArray), .string (⟨#[]⟩ : ByteArray), .int .i64 0] 28 (0, 0))) := ⟨by rw [← hq_]; exact (bkw BK280)⟩; have n1_ : Aside0 (Below w.heap.size w w5) := ⟨by rw [← hq_]; exact blw⟩; clear BK280 HB hq_; have BK280 := n0_; have HB := n1_; clear n0_ n1_)); have hcz6_0 : w5.cell? ⟨gb280, 0, none⟩ = some (.int .i64 0) := bk_ BK280; have hcz6_1 : w5.cell? ⟨gb280, 1, none⟩ = some (.string (⟨#[]⟩ : ByteArray)) := bk_ BK280; have hcz6_2 : w5.cell? ⟨gb280, 2, none⟩ = some (.string (⟨#[]⟩ : ByteArray)) := bk_ BK280; have hcz6_3 : w5.cell? ⟨gb280, 3, none⟩ = some (.string (⟨#[]⟩ : ByteArray)) := bk_ BK280; have hcz6_4 : w5.cell? ⟨gb280, 4, none⟩ = some (.int .i64 0) := bk_ BK280; have hfz6_0 := blk_frozen BK280.out 0; have hfz6_1 := blk_frozen BK280.out 1; have hfz6_2 := blk_frozen BK280.out 2; have hfz6_3 := blk_frozen BK280.out 3; have hfz6_4 := blk_frozen BK280.out 4))
  refine bodyPost_ret (results_ct rfl _ _ gb280 28 #[.int .i64 0, .string (⟨#[]⟩ : ByteArray), .string (⟨#[]⟩ : ByteArray), .string (⟨#[]⟩ : ByteArray), .int .i64 0] (0, 0) _ rfl (by (with_reducible repeat (first | refine blk_drewN ?_ _ | refine blk_drew ?_ | refine blk_alloc ?_ _)); refine blk_put (cs := #[.int .i64 0, .string (⟨#[]⟩ : ByteArray), .string (⟨#[]⟩ : ByteArray), .string (⟨#[]⟩ : ByteArray), .int .i64 0]) ?_ 4 _ rfl; (with_reducible repeat (first | refine blk_drewN ?_ _ | refine blk_drew ?_ | refine blk_alloc ?_ _)); refine blk_put (cs := #[.int .i64 0, .string (⟨#[]⟩ : ByteArray), .string (⟨#[]⟩ : ByteArray), .string (⟨#[]⟩ : ByteArray), .int .i64 0]) ?_ 3 _ rfl; (with_reducible repeat (first | refine blk_drewN ?_ _ | refine blk_drew ?_ | refine blk_alloc ?_ _)); refine blk_put (cs := #[.int .i64 0, .string (⟨#[]⟩ : ByteArray), .string (⟨#[]⟩ : ByteArray), .string (⟨#[]⟩ : ByteArray), .int .i64 0]) ?_ 2 _ rfl; (with_reducible repeat (first | refine blk_drewN ?_ _ | refine blk_drew ?_ | refine blk_alloc ?_ _)); refine blk_put (cs := #[.int .i64 0, .string (⟨#[]⟩ : ByteArray), .string (⟨#[]⟩ : ByteArray), .string (⟨#[]⟩ : ByteArray), .int .i64 0]) ?_ 1 _ rfl; (with_reducible repeat (first | refine blk_drewN ?_ _ | refine blk_drew ?_ | refine blk_alloc ?_ _)); refine blk_put (cs := #[.int .i64 0, .string (⟨#[]⟩ : ByteArray), .string (⟨#[]⟩ : ByteArray), .string (⟨#[]⟩ : ByteArray), .int .i64 0]) ?_ 0 _ rfl; (with_reducible repeat (first | refine blk_drewN ?_ _ | refine blk_drew ?_ | refine blk_alloc ?_ _)); exact BK280.out) Tryz.underlying28 rfl (by kernel_rfl)) rfl ?_
  exact ⟨by first | rfl | (simp [errW_none, errW_some] <;> rfl) | (simp [*, errW_none, errW_some] <;> rfl), blw⟩
 ·rw [if_neg c4] at H
  have c4b0 := beq_eq_false_iff_ne.mpr c4
  have c4b1 := bne_iff_ne.mpr c4
  replace H := Option.bind_eq_some_iff.mp H
  obtain ⟨t285, A70, H⟩ := H
  try dsimp only at H
  have A7 := Aside0.mk A70
  clear A70
  have HC8 := Aside0.mk H
  clear H
  go_enter Tryz.func23, Tryz.ntmps23
  go_upto_if 25 with (first | ((with_reducible refine gate_dst (N := 2) rfl ?_); refine box_event ?hg (N := 2) ?hd (cs := #[.int .i64 0, .string (⟨#[]⟩ : ByteArray), .string (⟨#[]⟩ : ByteArray), .string (⟨#[]⟩ : ByteArray), .int .i64 0]) (t := 28) ?hr ?_; (case hd => rfl); (case hg => rfl); (case hr => first | (go_simp; done) | (go_simp; rfl)); intro gb280 hg w9 hbox hb; have BK280 := Aside0.mk (hbox); have GW280 : Aside0 (w.heap.size ≤ gb280) := gw_ hg; have GE280 : Aside0 (w.heap.size ≤ gb280) := gw_ hg; replace HB := Aside0.mk (below_step blw hb); clear hb hbox hg) | ((with_reducible refine gc 29 rfl ?_); refine cl_ (some 14) Tryz.func29 (strings_Cut.calls a0 (⟨#[32]⟩ : ByteArray) t281 t282 t283 _ (Amb.at HG.out blw) A2.out) ?_; rintro w' ⟨nd, rfl⟩) | ((with_reducible refine gc 30 rfl ?_); refine cl_ (some 19) Tryz.func30 (script_known.calls t281 t284 _ (Amb.at HG.out blw) A3.out) ?_; rintro w' ⟨nd, rfl⟩) | ((with_reducible refine gc 31 rfl ?_); refine cl_ (some 24) Tryz.func31 (script_count.calls t284 t285 _ A7.out) ?_; rintro w' ⟨nd, rfl⟩))
  (try simp only [Act.put, List.setIfInBounds_toArray, List.set_cons_zero, List.set_cons_succ])
  go_cut [9] (fun v9 wc => ∃ (kq : Nat) (x9_7 : List ByteArray), Aside0 (script_line.j0 kq t284 t285 x9_7 = some (r1, r2, r3, r4, r5, r6)) ∧ Aside0 (kq ≤ k) ∧ Aside0 (Kd.R Kd.string 9 wc w.heap.size (fun _ => True) v9 x9_7) ∧ Aside0 (wc.heap[gb280]? = some (.cells #[.int .i64 0, .string (⟨#[]⟩ : ByteArray), .string (⟨#[]⟩ : ByteArray), .string (⟨#[]⟩ : ByteArray), .int .i64 0] 28 (0, 0))) ∧ Aside0 (Below w.heap.size w wc))
  case first =>
   have H := HC8.out
   clear HC8
   by_cases c10 : t283 = true
   ·subst c10
    rw [if_pos rfl] at H
    obtain ⟨ji11, hji11⟩ : ∃ j_ : Int, (mx t285 1) = j_ := ⟨_, rfl⟩
    replace H : ((strings_SplitN.f t282 (⟨#[32]⟩ : ByteArray) (ji11)).bind fun t286 => (script_line.j0 k t284 t285 t286)) = some (r1, r2, r3, r4, r5, r6) := by first | (rw [hji11] at H; exact H) | (simp only [hji11] at H ⊢; exact H)
    (try (have hji11l : 1 ≤ ji11 := by (rw [← hji11]; unfold mx; (repeat' split) <;> omega)))
    (try (have hji11m : 0 ≤ ji11 := by omega))
    have hji11_ : (if t285 < 1 then 1 else t285) = ji11 := hji11
    replace H := Option.bind_eq_some_iff.mp H
    obtain ⟨t286, A120, H⟩ := H
    try dsimp only at H
    have A12 := Aside0.mk A120
    clear A120
    have H' := Aside0.mk H
    clear H
    go_wp2_with (first | ((with_reducible refine gc 32 rfl ?_); refine goesL_ (some 29) rfl rfl Tryz.func32 (by kernel_rfl) rfl #[.string t282, .string (⟨#[32]⟩ : ByteArray), .int .i64 ji11] rfl (by (try simp only [List.map_toArray, List.map_cons, List.map_nil]); first | done | (simp only [hji11]; rfl) | rfl | (simp only [List.length_drop, List.length_take]; rfl)) ?_; (with_reducible refine (strings_SplitN.calls t282 (⟨#[32]⟩ : ByteArray) ji11 t286 _ ?side1 A12.out).mono ?_); (case side1 => exact Amb.at HG.out blw); rintro e w13 ⟨v287, rfl, ho0, hb⟩; refine ⟨_, rfl, ?_⟩; have HO288 := Aside0.mk (Kd.R_lower ho0 (below_size blw)); replace BK280 := Aside0.mk (blk_below (g := gb280) (o := .cells #[.int .i64 0, .string (⟨#[]⟩ : ByteArray), .string (⟨#[]⟩ : ByteArray), .string (⟨#[]⟩ : ByteArray), .int .i64 0] 28 (0, 0)) (bkw BK280) hb); replace HB := Aside0.mk (below_step blw hb); (try clear hb); (try clear ho0)))
    go_meet
    case rel => exact ⟨_, (t286), H', omk, ⟨by (with_reducible repeat (first | apply Kd.R_alloc | apply Kd.R_drewN | apply Kd.R_drew)); exact HO288.out⟩, ⟨bkw BK280⟩, ⟨blw⟩⟩
   ·replace c10 := Bool.eq_false_iff.mpr c10
    subst c10
    rw [if_neg nft] at H
    have H' := Aside0.mk H
    clear H
    go_wp2
    go_meet
    case rel => exact ⟨_, (([] : List ByteArray)), H', omk, ⟨by first | exact Kd.R_nil _ _ _ _ _ | exact Kd.N_nil _ _ _ _ _ | exact Kd.V_nil _ _ _ _ _ | exact Kd.Q_nil _ _ _ _ _ | exact Kd.S_nil _ _ _ _ _⟩, ⟨bkw BK280⟩, ⟨blw⟩⟩
  case rest =>
   clear HC8
   try clear c1
   try clear c2
   try clear p2
   try clear c3
   try clear c4
   try clear c4b0
   try clear c4b1
   try clear c10
   try clear hcz6_0 hcz6_1 hcz6_2 hcz6_3 hcz6_4
   try clear hfz6_0 hfz6_1 hfz6_2 hfz6_3 hfz6_4
   obtain ⟨kq, x9_7, HA, HJ7, HO_9, BK280, HB⟩ := hcut
   cases kq with
   | zero => exact absurd HA.out (by simp [script_line.j0])
   | succ kj7 =>
    have H := HA.out
    clear HA
    simp only [script_line.j0] at H
    by_cases c14 : (x9_7.length : Int) = t285
    ·rw [if_pos c14] at H
     have c14b0 := beq_iff_eq.mpr c14
     have c14b1 := bne_eq_false_iff_eq.mpr c14
     clear c14
     replace H := Option.bind_eq_some_iff.mp H
     obtain ⟨⟨t289, t290, t291, t292, t293, t294⟩, A150, H⟩ := H
     try dsimp only at H
     have A15 := Aside0.mk A150
     clear A150
     by_cases c16 : t294 = true
     ·subst c16
      rw [if_pos rfl] at H
      simp only [Option.some.injEq, Prod.mk.injEq] at H
      obtain ⟨rfl, rfl, rfl, rfl, rfl, rfl⟩ := H
      obtain ⟨Ao17, co17, eo17⟩ := Kd.R_slice HO_9.out
      subst eo17
      go_wp2_with (first | ((with_reducible refine gc 33 rfl ?_); refine gl_ (some 38) Tryz.func33 #[.int .i64 t284, .slice Ao17 x9_7.length co17] ?_; (with_reducible refine (script_step.calls kj7 t284 _ _ x9_7 t289 t290 t291 t292 t293 true _ ?side1 ?side2 ?side3 A15.out).mono ?_); (case side1 => exact Amb.at HG.out blw); (case side2 => repeat (first | exact (Kd.R_reads' HO_9.out).2.2 | (with_reducible refine Kd.C_alloc ?_ _) | (with_reducible refine Kd.C_drewN ?_ _) | (with_reducible refine Kd.C_drew ?_))); (case side3 => exact (Kd.R_reads' HO_9.out).2.1); rintro e w18 ⟨rfl, hb⟩; refine ⟨_, rfl, ?_⟩; replace HO_9 := Aside0.mk (Kd.R_below (by (with_reducible repeat (first | apply Kd.R_alloc | apply Kd.R_drewN | apply Kd.R_drew)); exact HO_9.out) hb); replace BK280 := Aside0.mk (blk_below (g := gb280) (o := .cells #[.int .i64 0, .string (⟨#[]⟩ : ByteArray), .string (⟨#[]⟩ : ByteArray), .string (⟨#[]⟩ : ByteArray), .int .i64 0] 28 (0, 0)) (bkw BK280) hb); replace HB := Aside0.mk (below_step blw hb); (try clear hb)) | ((with_reducible refine gate_dst (N := 10) rfl ?_); refine box_event ?hg (N := 10) ?hd (cs := #[.int .i64 0, .string (⟨#[]⟩ : ByteArray), .string (⟨#[]⟩ : ByteArray), .string (⟨#[]⟩ : ByteArray), .int .i64 0]) (t := 28) ?hr ?_; (case hd => rfl); (case hg => rfl); (case hr => first | (go_simp; done) | (go_simp; rfl)); intro gb295 hg w19 hbox hb; replace HO_9 := Aside0.mk (Kd.R_below (by (with_reducible repeat (first | apply Kd.R_alloc | apply Kd.R_drewN | apply Kd.R_drew)); exact HO_9.out) hb); have BK295 := Aside0.mk (hbox); have GW295 : Aside0 (w.heap.size ≤ gb295) := gw_ hg; have GE295 : Aside0 (w.heap.size ≤ gb295) := gw_ hg; replace HB := Aside0.mk (below_step blw hb); have NB280_295 := Aside0.mk ((by rw [hg]; exact Nat.ne_of_lt (blk_lt (g := gb280) (o := .cells #[.int .i64 0, .string (⟨#[]⟩ : ByteArray), .string (⟨#[]⟩ : ByteArray), .string (⟨#[]⟩ : ByteArray), .int .i64 0] 28 (0, 0)) (bkw BK280)) : gb280 ≠ gb295)); have NB295_280 := Aside0.mk ((by rw [hg]; exact Nat.ne_of_gt (blk_lt (g := gb280) (o := .cells #[.int .i64 0, .string (⟨#[]⟩ : ByteArray), .string (⟨#[]⟩ : ByteArray), .string (⟨#[]⟩ : ByteArray), .int .i64 0] 28 (0, 0)) (bkw BK280)) : gb295 ≠ gb280)); replace BK280 := Aside0.mk (blk_below (g := gb280) (o := .cells #[.int .i64 0, .string (⟨#[]⟩ : ByteArray), .string (⟨#[]⟩ : ByteArray), .string (⟨#[]⟩ : ByteArray), .int .i64 0] 28 (0, 0)) (bkw BK280) hb); clear hb hbox hg; have hnb20 := NB295_280.out; have hnc20 := NB280_295.out; have hcz21_0 : w19.cell? ⟨gb295, 0, none⟩ = some (.int .i64 0) := bk_ BK295; have hcz21_1 : w19.cell? ⟨gb295, 1, none⟩ = some (.string (⟨#[]⟩ : ByteArray)) := bk_ BK295; have hcz21_2 : w19.cell? ⟨gb295, 2, none⟩ = some (.string (⟨#[]⟩ : ByteArray)) := bk_ BK295; have hcz21_3 : w19.cell? ⟨gb295, 3, none⟩ = some (.string (⟨#[]⟩ : ByteArray)) := bk_ BK295; have hcz21_4 : w19.cell? ⟨gb295, 4, none⟩ = some (.int .i64 0) := bk_ BK295; have hfz21_0 := blk_frozen BK295.out 0; have hfz21_1 := blk_frozen BK295.out 1; have hfz21_2 := blk_frozen BK295.out 2; have hfz21_3 := blk_frozen BK295.out 3; have hfz21_4 := blk_frozen BK295.out 4; have hcz22_0 : w19.cell? ⟨gb280, 0, none⟩ = some (.int .i64 0) := bk_ BK280; have hcz22_1 : w19.cell? ⟨gb280, 1, none⟩ = some (.string (⟨#[]⟩ : ByteArray)) := bk_ BK280; have hcz22_2 : w19.cell? ⟨gb280, 2, none⟩ = some (.string (⟨#[]⟩ : ByteArray)) := bk_ BK280; have hcz22_3 : w19.cell? ⟨gb280, 3, none⟩ = some (.string (⟨#[]⟩ : ByteArray)) := bk_ BK280; have hcz22_4 : w19.cell? ⟨gb280, 4, none⟩ = some (.int .i64 0) := bk_ BK280; have hfz22_0 := blk_frozen BK280.out 0; have hfz22_1 := blk_frozen BK280.out 1; have hfz22_2 := blk_frozen BK280.out 2; have hfz22_3 := blk_frozen BK280.out 3; have hfz22_4 := blk_frozen BK280.out 4))
      refine bodyPost_ret (results_ct rfl _ _ gb280 28 #[.int .i64 t289, .string t290, .string t291, .string t292, .int .i64 t293] (0, 0) _ rfl (by (with_reducible repeat (first | refine blk_drewN ?_ _ | refine blk_drew ?_ | refine blk_alloc ?_ _)); refine blk_put (cs := #[.int .i64 t289, .string t290, .string t291, .string t292, .int .i64 0]) ?_ 4 _ rfl; (with_reducible repeat (first | refine blk_drewN ?_ _ | refine blk_drew ?_ | refine blk_alloc ?_ _)); refine blk_put (cs := #[.int .i64 t289, .string t290, .string t291, .string (⟨#[]⟩ : ByteArray), .int .i64 0]) ?_ 3 _ rfl; (with_reducible repeat (first | refine blk_drewN ?_ _ | refine blk_drew ?_ | refine blk_alloc ?_ _)); refine blk_put (cs := #[.int .i64 t289, .string t290, .string (⟨#[]⟩ : ByteArray), .string (⟨#[]⟩ : ByteArray), .int .i64 0]) ?_ 2 _ rfl; (with_reducible repeat (first | refine blk_drewN ?_ _ | refine blk_drew ?_ | refine blk_alloc ?_ _)); refine blk_put (cs := #[.int .i64 t289, .string (⟨#[]⟩ : ByteArray), .string (⟨#[]⟩ : ByteArray), .string (⟨#[]⟩ : ByteArray), .int .i64 0]) ?_ 1 _ rfl; (with_reducible repeat (first | refine blk_drewN ?_ _ | refine blk_drew ?_ | refine blk_alloc ?_ _)); refine blk_put (cs := #[.int .i64 0, .string (⟨#[]⟩ : ByteArray), .string (⟨#[]⟩ : ByteArray), .string (⟨#[]⟩ : ByteArray), .int .i64 0]) ?_ 0 _ rfl; (with_reducible repeat (first | refine blk_drewN ?_ _ | refine blk_drew ?_ | refine blk_alloc ?_ _)); refine blk_far ?_ NB280_295.out _; (with_reducible repeat (first | refine blk_drewN ?_ _ | refine blk_drew ?_ | refine blk_alloc ?_ _)); refine blk_far ?_ NB280_295.out _; (with_reducible repeat (first | refine blk_drewN ?_ _ | refine blk_drew ?_ | refine blk_alloc ?_ _)); refine blk_far ?_ NB280_295.out _; (with_reducible repeat (first | refine blk_drewN ?_ _ | refine blk_drew ?_ | refine blk_alloc ?_ _)); refine blk_far ?_ NB280_295.out _; (with_reducible repeat (first | refine blk_drewN ?_ _ | refine blk_drew ?_ | refine blk_alloc ?_ _)); refine blk_far ?_ NB280_295.out _; (with_reducible repeat (first | refine blk_drewN ?_ _ | refine blk_drew ?_ | refine blk_alloc ?_ _)); exact BK280.out) Tryz.underlying28 rfl (by kernel_rfl)) rfl ?_
      exact ⟨by first | rfl | (simp [errW_none, errW_some] <;> rfl) | (simp [*, errW_none, errW_some] <;> rfl), blw⟩
     ·replace c16 := Bool.eq_false_iff.mpr c16
      subst c16
      rw [if_neg nft] at H
      simp only [Option.some.injEq, Prod.mk.injEq] at H
      obtain ⟨rfl, rfl, rfl, rfl, rfl, rfl⟩ := H
      obtain ⟨Ao23, co23, eo23⟩ := Kd.R_slice HO_9.out
      subst eo23
      go_wp2_with (first | ((with_reducible refine gc 33 rfl ?_); refine gl_ (some 38) Tryz.func33 #[.int .i64 t284, .slice Ao23 x9_7.length co23] ?_; (with_reducible refine (script_step.calls kj7 t284 _ _ x9_7 t289 t290 t291 t292 t293 false _ ?side1 ?side2 ?side3 A15.out).mono ?_); (case side1 => exact Amb.at HG.out blw); (case side2 => repeat (first | exact (Kd.R_reads' HO_9.out).2.2 | (with_reducible refine Kd.C_alloc ?_ _) | (with_reducible refine Kd.C_drewN ?_ _) | (with_reducible refine Kd.C_drew ?_))); (case side3 => exact (Kd.R_reads' HO_9.out).2.1); rintro e w24 ⟨rfl, hb⟩; refine ⟨_, rfl, ?_⟩; replace HO_9 := Aside0.mk (Kd.R_below (by (with_reducible repeat (first | apply Kd.R_alloc | apply Kd.R_drewN | apply Kd.R_drew)); exact HO_9.out) hb); replace BK280 := Aside0.mk (blk_below (g := gb280) (o := .cells #[.int .i64 0, .string (⟨#[]⟩ : ByteArray), .string (⟨#[]⟩ : ByteArray), .string (⟨#[]⟩ : ByteArray), .int .i64 0] 28 (0, 0)) (bkw BK280) hb); replace HB := Aside0.mk (below_step blw hb); (try clear hb)) | ((with_reducible refine gate_dst (N := 10) rfl ?_); refine box_event ?hg (N := 10) ?hd (cs := #[.int .i64 0, .string (⟨#[]⟩ : ByteArray), .string (⟨#[]⟩ : ByteArray), .string (⟨#[]⟩ : ByteArray), .int .i64 0]) (t := 28) ?hr ?_; (case hd => rfl); (case hg => rfl); (case hr => first | (go_simp; done) | (go_simp; rfl)); intro gb295 hg w25 hbox hb; replace HO_9 := Aside0.mk (Kd.R_below (by (with_reducible repeat (first | apply Kd.R_alloc | apply Kd.R_drewN | apply Kd.R_drew)); exact HO_9.out) hb); have BK295 := Aside0.mk (hbox); have GW295 : Aside0 (w.heap.size ≤ gb295) := gw_ hg; have GE295 : Aside0 (w.heap.size ≤ gb295) := gw_ hg; replace HB := Aside0.mk (below_step blw hb); have NB280_295 := Aside0.mk ((by rw [hg]; exact Nat.ne_of_lt (blk_lt (g := gb280) (o := .cells #[.int .i64 0, .string (⟨#[]⟩ : ByteArray), .string (⟨#[]⟩ : ByteArray), .string (⟨#[]⟩ : ByteArray), .int .i64 0] 28 (0, 0)) (bkw BK280)) : gb280 ≠ gb295)); have NB295_280 := Aside0.mk ((by rw [hg]; exact Nat.ne_of_gt (blk_lt (g := gb280) (o := .cells #[.int .i64 0, .string (⟨#[]⟩ : ByteArray), .string (⟨#[]⟩ : ByteArray), .string (⟨#[]⟩ : ByteArray), .int .i64 0] 28 (0, 0)) (bkw BK280)) : gb295 ≠ gb280)); replace BK280 := Aside0.mk (blk_below (g := gb280) (o := .cells #[.int .i64 0, .string (⟨#[]⟩ : ByteArray), .string (⟨#[]⟩ : ByteArray), .string (⟨#[]⟩ : ByteArray), .int .i64 0] 28 (0, 0)) (bkw BK280) hb); clear hb hbox hg; have hnb26 := NB295_280.out; have hnc26 := NB280_295.out; have hcz27_0 : w25.cell? ⟨gb295, 0, none⟩ = some (.int .i64 0) := bk_ BK295; have hcz27_1 : w25.cell? ⟨gb295, 1, none⟩ = some (.string (⟨#[]⟩ : ByteArray)) := bk_ BK295; have hcz27_2 : w25.cell? ⟨gb295, 2, none⟩ = some (.string (⟨#[]⟩ : ByteArray)) := bk_ BK295; have hcz27_3 : w25.cell? ⟨gb295, 3, none⟩ = some (.string (⟨#[]⟩ : ByteArray)) := bk_ BK295; have hcz27_4 : w25.cell? ⟨gb295, 4, none⟩ = some (.int .i64 0) := bk_ BK295; have hfz27_0 := blk_frozen BK295.out 0; have hfz27_1 := blk_frozen BK295.out 1; have hfz27_2 := blk_frozen BK295.out 2; have hfz27_3 := blk_frozen BK295.out 3; have hfz27_4 := blk_frozen BK295.out 4; have hcz28_0 : w25.cell? ⟨gb280, 0, none⟩ = some (.int .i64 0) := bk_ BK280; have hcz28_1 : w25.cell? ⟨gb280, 1, none⟩ = some (.string (⟨#[]⟩ : ByteArray)) := bk_ BK280; have hcz28_2 : w25.cell? ⟨gb280, 2, none⟩ = some (.string (⟨#[]⟩ : ByteArray)) := bk_ BK280; have hcz28_3 : w25.cell? ⟨gb280, 3, none⟩ = some (.string (⟨#[]⟩ : ByteArray)) := bk_ BK280; have hcz28_4 : w25.cell? ⟨gb280, 4, none⟩ = some (.int .i64 0) := bk_ BK280; have hfz28_0 := blk_frozen BK280.out 0; have hfz28_1 := blk_frozen BK280.out 1; have hfz28_2 := blk_frozen BK280.out 2; have hfz28_3 := blk_frozen BK280.out 3; have hfz28_4 := blk_frozen BK280.out 4))
      refine bodyPost_ret (results_ct rfl _ _ gb280 28 #[.int .i64 0, .string (⟨#[]⟩ : ByteArray), .string (⟨#[]⟩ : ByteArray), .string (⟨#[]⟩ : ByteArray), .int .i64 0] (0, 0) _ rfl (by (with_reducible repeat (first | refine blk_drewN ?_ _ | refine blk_drew ?_ | refine blk_alloc ?_ _)); refine blk_put (cs := #[.int .i64 0, .string (⟨#[]⟩ : ByteArray), .string (⟨#[]⟩ : ByteArray), .string (⟨#[]⟩ : ByteArray), .int .i64 0]) ?_ 4 _ rfl; (with_reducible repeat (first | refine blk_drewN ?_ _ | refine blk_drew ?_ | refine blk_alloc ?_ _)); refine blk_put (cs := #[.int .i64 0, .string (⟨#[]⟩ : ByteArray), .string (⟨#[]⟩ : ByteArray), .string (⟨#[]⟩ : ByteArray), .int .i64 0]) ?_ 3 _ rfl; (with_reducible repeat (first | refine blk_drewN ?_ _ | refine blk_drew ?_ | refine blk_alloc ?_ _)); refine blk_put (cs := #[.int .i64 0, .string (⟨#[]⟩ : ByteArray), .string (⟨#[]⟩ : ByteArray), .string (⟨#[]⟩ : ByteArray), .int .i64 0]) ?_ 2 _ rfl; (with_reducible repeat (first | refine blk_drewN ?_ _ | refine blk_drew ?_ | refine blk_alloc ?_ _)); refine blk_put (cs := #[.int .i64 0, .string (⟨#[]⟩ : ByteArray), .string (⟨#[]⟩ : ByteArray), .string (⟨#[]⟩ : ByteArray), .int .i64 0]) ?_ 1 _ rfl; (with_reducible repeat (first | refine blk_drewN ?_ _ | refine blk_drew ?_ | refine blk_alloc ?_ _)); refine blk_put (cs := #[.int .i64 0, .string (⟨#[]⟩ : ByteArray), .string (⟨#[]⟩ : ByteArray), .string (⟨#[]⟩ : ByteArray), .int .i64 0]) ?_ 0 _ rfl; (with_reducible repeat (first | refine blk_drewN ?_ _ | refine blk_drew ?_ | refine blk_alloc ?_ _)); refine blk_far ?_ NB280_295.out _; (with_reducible repeat (first | refine blk_drewN ?_ _ | refine blk_drew ?_ | refine blk_alloc ?_ _)); refine blk_far ?_ NB280_295.out _; (with_reducible repeat (first | refine blk_drewN ?_ _ | refine blk_drew ?_ | refine blk_alloc ?_ _)); refine blk_far ?_ NB280_295.out _; (with_reducible repeat (first | refine blk_drewN ?_ _ | refine blk_drew ?_ | refine blk_alloc ?_ _)); refine blk_far ?_ NB280_295.out _; (with_reducible repeat (first | refine blk_drewN ?_ _ | refine blk_drew ?_ | refine blk_alloc ?_ _)); refine blk_far ?_ NB280_295.out _; (with_reducible repeat (first | refine blk_drewN ?_ _ | refine blk_drew ?_ | refine blk_alloc ?_ _)); exact BK280.out) Tryz.underlying28 rfl (by kernel_rfl)) rfl ?_
      exact ⟨by first | rfl | (simp [errW_none, errW_some] <;> rfl) | (simp [*, errW_none, errW_some] <;> rfl), blw⟩
    ·rw [if_neg c14] at H
     have c14b0 := beq_eq_false_iff_ne.mpr c14
     have c14b1 := bne_iff_ne.mpr c14
     simp only [Option.some.injEq, Prod.mk.injEq] at H
     obtain ⟨rfl, rfl, rfl, rfl, rfl, rfl⟩ := H
     obtain ⟨Ao29, co29, eo29⟩ := Kd.R_slice HO_9.out
     subst eo29
     have hcz30_0 : wc.cell? ⟨gb280, 0, none⟩ = some (.int .i64 0) := bk_ BK280
     have hcz30_1 : wc.cell? ⟨gb280, 1, none⟩ = some (.string (⟨#[]⟩ : ByteArray)) := bk_ BK280
     have hcz30_2 : wc.cell? ⟨gb280, 2, none⟩ = some (.string (⟨#[]⟩ : ByteArray)) := bk_ BK280
     have hcz30_3 : wc.cell? ⟨gb280, 3, none⟩ = some (.string (⟨#[]⟩ : ByteArray)) := bk_ BK280
     have hcz30_4 : wc.cell? ⟨gb280, 4, none⟩ = some (.int .i64 0) := bk_ BK280
     have hfz30_0 := blk_frozen BK280.out 0
     have hfz30_1 := blk_frozen BK280.out 1
     have hfz30_2 := blk_frozen BK280.out 2
     have hfz30_3 := blk_frozen BK280.out 3
     have hfz30_4 := blk_frozen BK280.out 4
     go_wp2
     refine bodyPost_ret (results_ct rfl _ _ gb280 28 #[.int .i64 0, .string (⟨#[]⟩ : ByteArray), .string (⟨#[]⟩ : ByteArray), .string (⟨#[]⟩ : ByteArray), .int .i64 0] (0, 0) _ rfl (by (with_reducible repeat (first | refine blk_drewN ?_ _ | refine blk_drew ?_ | refine blk_alloc ?_ _)); refine blk_put (cs := #[.int .i64 0, .string (⟨#[]⟩ : ByteArray), .string (⟨#[]⟩ : ByteArray), .string (⟨#[]⟩ : ByteArray), .int .i64 0]) ?_ 4 _ rfl; (with_reducible repeat (first | refine blk_drewN ?_ _ | refine blk_drew ?_ | refine blk_alloc ?_ _)); refine blk_put (cs := #[.int .i64 0, .string (⟨#[]⟩ : ByteArray), .string (⟨#[]⟩ : ByteArray), .string (⟨#[]⟩ : ByteArray), .int .i64 0]) ?_ 3 _ rfl; (with_reducible repeat (first | refine blk_drewN ?_ _ | refine blk_drew ?_ | refine blk_alloc ?_ _)); refine blk_put (cs := #[.int .i64 0, .string (⟨#[]⟩ : ByteArray), .string (⟨#[]⟩ : ByteArray), .string (⟨#[]⟩ : ByteArray), .int .i64 0]) ?_ 2 _ rfl; (with_reducible repeat (first | refine blk_drewN ?_ _ | refine blk_drew ?_ | refine blk_alloc ?_ _)); refine blk_put (cs := #[.int .i64 0, .string (⟨#[]⟩ : ByteArray), .string (⟨#[]⟩ : ByteArray), .string (⟨#[]⟩ : ByteArray), .int .i64 0]) ?_ 1 _ rfl; (with_reducible repeat (first | refine blk_drewN ?_ _ | refine blk_drew ?_ | refine blk_alloc ?_ _)); refine blk_put (cs := #[.int .i64 0, .string (⟨#[]⟩ : ByteArray), .string (⟨#[]⟩ : ByteArray), .string (⟨#[]⟩ : ByteArray), .int .i64 0]) ?_ 0 _ rfl; (with_reducible repeat (first | refine blk_drewN ?_ _ | refine blk_drew ?_ | refine blk_alloc ?_ _)); exact BK280.out) Tryz.underlying28 rfl (by kernel_rfl)) rfl ?_
     exact ⟨by first | rfl | (simp [errW_none, errW_some] <;> rfl) | (simp [*, errW_none, errW_some] <;> rfl), blw⟩

/-! ### script_Read: function 12 -/
/-- The steps of lines, behind those that there are: the lines that are behind, the lines to come. -/
def script_Read.g (line : ByteArray → Option (Int × ByteArray × ByteArray × ByteArray × Int × Int)) : List S28 → Nat → List ByteArray → Option (List S28 × Int × Int)
  | acc, _, [] => some (acc, 0, 0)
  | acc, n, x :: xs => if x.toList = ([] : List UInt8) ∨ bt x 0 = 35 then script_Read.g line acc (n + 1) xs else (line x).bind fun t => (
      if t.2.2.2.2.2 = 0 then (if acc.length = 200 then some ([], ((n + 1 : Nat) : Int), 8) else script_Read.g line (acc ++ [⟨t.1, t.2.1, t.2.2.1, t.2.2.2.1, t.2.2.2.2.1⟩]) (n + 1) xs)
      else some ([], ((n + 1 : Nat) : Int), t.2.2.2.2.2))
theorem script_Read.g_mono (f g : ByteArray → Option (Int × ByteArray × ByteArray × ByteArray × Int × Int)) (h : ∀ x, LeO (f x) (g x)) : ∀ l acc n, LeO (script_Read.g f acc n l) (script_Read.g g acc n l)
  | [], _, _ => LeO.refl _
  | x :: l, acc, n => by
    unfold script_Read.g
    refine LeO.ite (script_Read.g_mono f g h l _ _) (LeO.bind (h x) fun t => LeO.ite (LeO.ite (LeO.refl _) (script_Read.g_mono f g h l _ _)) (LeO.refl _))
/-- All orders in which a region's operations may come up. -/
def script_Read.lins (md : Region.Mode) (ops : Array Oper) : Nat → Array Bool → List (List Nat)
  | 0, _ => [[]]
  | fuel + 1, listed => if Region.ready md ops listed = [] then [[]] else (Region.ready md ops listed).flatMap fun i => (script_Read.lins md ops fuel (listed.setIfInBounds i true)).map (i :: ·)
theorem script_Read.lins_go (md : Region.Mode) (ops : Array Oper) : ∀ (fuel t : Nat) (listed : Array Bool), Region.linearise.go md ops fuel t listed [] ∈ script_Read.lins md ops fuel listed
  | 0, t, listed => by simp [Region.linearise.go, lins]
  | fuel + 1, t, listed => by
    unfold lins
    simp only [Region.linearise.go]
    change (match (Region.ready md ops listed)[t % (Region.ready md ops listed).length]? with
      | some i => Region.linearise.go md ops fuel (t / (Region.ready md ops listed).length) (listed.setIfInBounds i true) [i]
      | none => [].reverse) ∈ _
    by_cases h : Region.ready md ops listed = []
    · rw [if_pos h, h]; simp
    · rw [if_neg h]
      have hlt : t % (Region.ready md ops listed).length < (Region.ready md ops listed).length := Nat.mod_lt _ (by cases hr : Region.ready md ops listed with | nil => exact absurd hr h | cons _ _ => simp)
      rw [List.getElem?_eq_getElem hlt]
      dsimp only
      rw [linearise_go_acc, List.reverse_singleton, List.singleton_append]
      exact List.mem_flatMap.2 ⟨_, List.getElem_mem hlt, List.mem_map.2 ⟨_, script_Read.lins_go md ops fuel _ _, rfl⟩⟩
theorem script_Read.ops_list {F : Fence} {n : Nat} {P : Program} {ops : Array Oper} {Q : Exit → Act → World → Prop} : ∀ (l : List Nat) (a : Act) (w : World), wpListIn F n P ops Q (l.filterMap (ops[·]?)) a w → wpOpsIn F n P ops Q l a w
  | [], a, w, h => h
  | i :: rest, a, w, h => by
    rw [List.filterMap_cons] at h
    rw [wpOpsIn_cons]
    cases ho : ops[i]? with
    | none =>
      rw [ho] at h
      unfold Go.wpOpIn
      rw [ho]
      exact script_Read.ops_list rest a w h
    | some o =>
      rw [ho] at h
      unfold Go.wpOpIn
      rw [ho]
      dsimp only at h ⊢
      unfold wpListIn at h
      split
      · rename_i hw
        rw [if_pos hw] at h
        exact Oper.wpIn_mono (script_Read.ops_list rest) h
      · rename_i hw
        rw [if_neg hw] at h
        exact ⟨h.1, script_Read.ops_list rest _ _ h.2⟩
/-- A region that draws its order: each order is walked. -/
theorem script_Read.region_orders {F : Fence} {n : Nat} {P : Program} {id : Nat} {ops : Array Oper} {Q : Exit → Act → World → Prop} {a : Act} {w : World} (ls : List (List Nat)) (hm : P.follows .mixedOrders = true)
    (hl : script_Read.lins .any ops ops.size (Array.replicate ops.size false) = ls) (h : ∀ l ∈ ls, wpListIn F n P ops Q (l.filterMap (ops[·]?)) a w.drew) : (Code.region id ops true).wpIn F n P Q a w :=
  wpIn_region_draw fun t => by
    simp only [Region.schedule, hm, Bool.true_or, if_true]
    exact script_Read.ops_list _ _ _ (h _ (hl ▸ script_Read.lins_go .any ops ops.size t _))
/-- 'append' behind the box of one element, within a fence. -/
theorem script_Read.append_in {F : Fence} {n : Nat} {P : Program} {ops : Array Oper} {rest : List Oper} {o : Oper} {a : Act} {Q : Exit → Act → World → Prop} {α : Type} (d : Kd α) {W : World} (base : Nat) (hgd : o.guard = none) (s x : Operand) (t e : TypeId) (z : Value) (bytes : Nat)
    (ho : o.op = .call { callee := .builtin .append, args := #[s, x], argTypes := #[t, t] })
    (ht : P.underlying t = some (.slice e)) (hinfo : (P.info? e).map (fun i => (i.zero, i.size, i.bytes)) = some (some z, d.sz, bytes)) (hz : z.cells.size = d.sz) (hs0 : 0 < d.sz)
    (v : Value) (xs : List α) (p : α) (cs : List Value) (ok okp : Nat → Prop) (hs : a.eval s = v) (hx : a.eval x = .slice (some ⟨W.heap.size, 0, none⟩) 1 1) (hp : d.M W base okp p cs) (hokp : ∀ k, okp k → ok k ∧ some k ≠ v.ownBlock) (hfresh : ∀ k, W.heap.size ≤ k → ok k)
    (HO : d.R e W base ok v xs) (hbase : base ≤ W.heap.size) (hl : (xs.length + 1) * bytes ≤ 140737488355328) (hl2 : xs.length + 1 ≤ maxLen)
    (h : ∀ v1 w1, d.R e w1 base ok v1 (xs ++ [p]) → W.grownBy w1 v.ownBlock → wpListIn F n P ops Q rest (a.put o.dst v1) w1) :
    wpListIn F n P ops Q (o :: rest) a (W.alloc (.cells cs.toArray e)) := by
  obtain ⟨h0, inner, hown, hr⟩ := HO
  obtain ⟨i0, hi, hz0, hz1, hz2⟩ := info_parts hinfo
  have hK := d.K_len (d.K_of_M hp)
  have h1 := d.K_one (d.K_of_M hp)
  refine Go.wpListIn_append_own_at (W.alloc (.cells cs.toArray e)) hgd s x t ho base e i0 z d.sz bytes ht hi hz0 hz1 hz2 hz hs0 v xs.length inner hs (hown.alloc _) ⟨W.heap.size, 0, none⟩ 1 1 cs hx (by rw [hK]; simp)
    (by simpa using World.news_of_block (cs := cs.toArray) (t := e) (fr := (0, 0)) (heap_alloc_new W (.cells cs.toArray e))) h1 hl2 hl (by simp <;> omega) ?_
  intro v1 w1 hown1 hg _ hat
  have hg1 := World.grownBy.trans (World.grownBy_alloc W _ _) hg
  have hat1 : v1.ownBlock = v.ownBlock ∨ ∃ b, v1.ownBlock = some b ∧ W.heap.size ≤ b := by
    rcases hat with hat | hat
    · exact .inl hat
    · exact .inr ⟨_, hat, by simp⟩
  exact h v1 w1 (Kd.R_appended h0 hr hp hokp hfresh hown1 hg1 hat1) hg1
/-- A row of one's own where a block that is no cells has turned. -/
theorem script_Read.own_turn {α : Type} {d : Kd α} {e : Nat} {W W' : World} {base n : Nat} {ok : Nat → Prop} {v : Value} {xs : List α} {row : Option Nat} (h : d.R e W base ok v xs) (hg : W.grownBy W' row) (hr : ∀ r, row = some r → n ≤ r ∧ ∃ o : Obj, W.heap[r]? = some o ∧ o.isCells = false) : d.R e W' base ok v xs := by
  refine Kd.R_mono (Kd.R_grown (Kd.R_bound h) hg ?_) (fun k hk => hk.1)
  rintro k ⟨_, _, _, q, _, cells, hc⟩ he
  obtain ⟨_, o, ho, hn⟩ := hr k he.symm
  rw [hc] at ho
  obtain rfl := Option.some.inj ho
  simp [Obj.isCells] at hn
theorem script_Read.inf : (Tryz.prog.info? 28).map (fun i => (i.zero, i.size, i.bytes)) = some (some (.agg #[.int .i64 0, .string ⟨#[]⟩, .string ⟨#[]⟩, .string ⟨#[]⟩, .int .i64 0]), 5, 64) := by kernel_rfl
def script_Read.Inv (line : ByteArray → Option (Int × ByteArray × ByteArray × ByteArray × Int × Int)) (a0 : ByteArray) (r : List S28 × Int × Int) (w : World) (pre : List ByteArray) (W : World) : Prop :=
  ∃ (acc : List S28) (v : Value), (∀ ys, pre ++ ys = Sp.parts 10 a0 → script_Read.g line acc pre.length ys = some r) ∧ acc.length ≤ 200 ∧
    W.heap[w.heap.size]? = some (.cells #[.slice none 0 0] 33 (0, 0)) ∧ W.heap[w.heap.size + 1]? = some (.cells #[.int .i64 0] 3 (0, 0)) ∧ W.heap[w.heap.size + 2]? = some (.cells #[.int .i64 0] 34 (0, 0)) ∧
    W.heap[w.heap.size + 3]? = some (.cells #[v] 33 (0, 0)) ∧ W.heap[w.heap.size + 4]? = some (.cells #[.int .i64 (pre.length : Int)] 3 (0, 0)) ∧
    Kd.R k28 28 W w.heap.size (fun k => w.heap.size + 8 ≤ k) v acc ∧ Below w.heap.size w W ∧ w.heap.size + 8 ≤ W.heap.size
def script_Read.Out (r : List S28 × Int × Int) (w : World) (c : Go.Code) (pre : List ByteArray) (W : World) : Prop :=
  c = .ret ∧ r.1 = [] ∧ W.heap[w.heap.size]? = some (.cells #[.slice none 0 0] 33 (0, 0)) ∧ W.heap[w.heap.size + 1]? = some (.cells #[.int .i64 r.2.1] 3 (0, 0)) ∧ W.heap[w.heap.size + 2]? = some (.cells #[.int .i64 r.2.2] 34 (0, 0)) ∧ Below w.heap.size w W
section
open Go Go.Shelf Go.Proofs.YtcgfaagadejpmaaGreatDoorW.SeqC Sp
attribute [local go_sem] Oper.semAt_some
set_option maxHeartbeats 8000000 in
theorem script_Read.walk (line : ByteArray → Option (Int × ByteArray × ByteArray × ByteArray × Int × Int)) (hL : ∀ x r1 r2 r3 r4 r5 r6 w, Amb w → line x = some (r1, r2, r3, r4, r5, r6) → Calls Tryz.prog 23 #[.string x] w fun e w' => e = .returned (.tuple #[.agg #[.int .i64 r1, .string r2, .string r3, .string r4, .int .i64 r5], .int .i64 r6]) ∧ Below w.heap.size w w')
    (a0 : ByteArray) (r1 : List S28) (r2 : Int) (r3 : Int) (w : World) (hG : Amb w) (hsz : a0.size ≤ 140737488355327) (h : script_Read.g line [] 0 (Sp.parts 10 a0) = some (r1, r2, r3)) :
    Calls Tryz.prog 12 #[.string a0] w fun e w' => ∃ v0_ : Value, e = .returned (.tuple #[v0_, .int .i64 r2, .int .i64 r3]) ∧ Kd.R k28 28 w' w.heap.size (fun _ => True) v0_ r1 ∧ Below w.heap.size w w' := by
  refine (callsIn_wide (n := 3)).1 ?_
  refine callsIn_of_wp_marks Tryz.func12 rfl trivial ?_ rfl
  simp only [Tryz.ntmps12, List.size_toArray, List.length_cons, List.length_nil, Nat.reduceAdd, Nat.reduceSub, Array.replicate_succ, Array.replicate_zero, List.push_toArray, List.append_toArray, List.nil_append, List.cons_append]
  obtain ⟨r, hr⟩ : ∃ r, (r1, r2, r3) = r := ⟨_, rfl⟩
  rw [hr] at h
  gi_wp2_with (refine ⟨trivial, (callsIn_wide.2 (splitSeq_in 3 a0 ⟨#[10]⟩ _)).mono ?_⟩; rintro e w' ⟨rfl, rfl⟩)
  obtain ⟨W0, hW0⟩ : ∃ W0, ((((((((w.alloc (.cells #[.slice none 0 0] 33)).alloc (.cells #[.int .i64 0] 3)).alloc (.cells #[.int .i64 0] 34)).alloc (.cells #[.slice none 0 0] 33)).alloc (.cells #[.int .i64 0] 3)).alloc (.cells #[.string a0] 9)).alloc (.cells #[.string ⟨#[10]⟩] 9)).alloc (.cells #[.int .i64 0] 3)) = W0 := ⟨_, rfl⟩
  have s0 : W0.heap.size = w.heap.size + 8 := by rw [← hW0]; simp
  have hB0 : Below w.heap.size w W0 := by rw [← hW0]; repeat (first | exact Below.refl _ _ | refine Below.alloc ?_ (by simp <;> omega) _)
  have q : ∀ (A : World) (o : Obj) (k : Nat) (x : Obj), A.heap[k]? = some x → (A.alloc o).heap[k]? = some x := fun A o k x hk => (Below.heap_alloc A o k (Array.getElem?_eq_some_iff.1 hk).1).trans hk
  have d0 : W0.heap[w.heap.size]? = some (.cells #[.slice none 0 0] 33 (0, 0)) := by rw [← hW0]; repeat (first | exact World.alloc_heap_new w _ | apply q)
  have nw : ∀ (A : World) (o : Obj) (k : Nat), k = A.heap.size → (A.alloc o).heap[k]? = some o := fun A o k hk => by subst hk; exact World.alloc_heap_new A o
  have d1 : W0.heap[w.heap.size + 1]? = some (.cells #[.int .i64 0] 3 (0, 0)) := by rw [← hW0]; (iterate 6 apply q); exact nw _ _ _ (by simp)
  have d2 : W0.heap[w.heap.size + 2]? = some (.cells #[.int .i64 0] 34 (0, 0)) := by rw [← hW0]; (iterate 5 apply q); exact nw _ _ _ (by simp)
  have d3 : W0.heap[w.heap.size + 3]? = some (.cells #[.slice none 0 0] 33 (0, 0)) := by rw [← hW0]; (iterate 4 apply q); exact nw _ _ _ (by simp)
  have d4 : W0.heap[w.heap.size + 4]? = some (.cells #[.int .i64 0] 3 (0, 0)) := by rw [← hW0]; (iterate 3 apply q); exact nw _ _ _ (by simp)
  have d5 : W0.heap[w.heap.size + 5]? = some (.cells #[.string a0] 9 (0, 0)) := by rw [← hW0]; (iterate 2 apply q); exact nw _ _ _ (by simp)
  have d6 : W0.heap[w.heap.size + 5 + 1]? = some (.cells #[.string ⟨#[10]⟩] 9 (0, 0)) := by rw [← hW0]; apply q; exact nw _ _ _ (by simp)
  have d7 : W0.heap[w.heap.size + 5 + 2]? = some (.cells #[.int .i64 0] 3 (0, 0)) := by rw [← hW0]; exact nw _ _ _ (by simp)
  rw [hW0]
  refine wpIn_range_cell rfl (by decide) (gf := 37) (lb := #[.pointer (some ⟨w.heap.size + 1 + 1 + 1 + 1 + 1 + 1, 0, none⟩), .pointer (some ⟨w.heap.size + 1 + 1 + 1 + 1 + 1, 0, none⟩), .pointer (some ⟨w.heap.size + 1 + 1 + 1 + 1 + 1 + 2, 0, none⟩)]) rfl trivial (enters_of Tryz.func37 (by kernel_rfl) rfl)
    (splitIt 2 a0 hsz 10 (w.heap.size + 5) W0 (by omega) d5 d6 d7) (by omega) ((blk_cell d5 0).trans rfl) kp3_t (kp3_b (by omega)) (fun _ => rfl)
    (script_Read.Inv line a0 r w) (script_Read.Out r w) ?own ?ownx ?free ⟨[], .slice none 0 0, fun ys hys => by rw [show ys = Sp.parts 10 a0 from hys]; exact h, by simp, d0, d1, d2, d3, d4, Kd.R_nil _ _ _ _ _, hB0, by omega⟩
    (fun x => { tmps := #[.string a0, undef, .pointer (some ⟨w.heap.size, 0, none⟩), .pointer (some ⟨w.heap.size + 1, 0, none⟩), .pointer (some ⟨w.heap.size + 1 + 1, 0, none⟩), .pointer (some ⟨w.heap.size + 1 + 1 + 1, 0, none⟩), .pointer (some ⟨w.heap.size + 1 + 1 + 1 + 1, 0, none⟩), .string x, undef, undef, .string a0, .func (.func 37) #[] #[.pointer (some ⟨w.heap.size + 1 + 1 + 1 + 1 + 1 + 1, 0, none⟩), .pointer (some ⟨w.heap.size + 1 + 1 + 1 + 1 + 1, 0, none⟩), .pointer (some ⟨w.heap.size + 1 + 1 + 1 + 1 + 1 + 2, 0, none⟩)], .string x, undef, undef, undef, undef, undef, undef, undef, undef, undef, undef, undef, undef, undef, undef, undef, undef, undef, undef, undef, undef, undef, undef, undef, undef, undef, undef, undef, undef, undef, undef], defers := [] }) ?assign ?body ?done ?stop
  case own =>
    intro s A B row hs hg hr
    obtain ⟨acc, v, h1, h2, h3, h4, h5, h6, h7, h8, h9, h10⟩ := hs
    exact ⟨acc, v, h1, h2, blk_own h3 hg hr, blk_own h4 hg hr, blk_own h5 hg hr, blk_own h6 hg hr, blk_own h7 hg hr, script_Read.own_turn h8 hg hr, ownFrom_below (Nat.le_refl _) (by omega) s A B row h9 hg hr, Nat.le_trans h10 hg.size⟩
  case ownx =>
    intro c s A B row hs hg hr
    obtain ⟨h1, h2, h3, h4, h5, h6⟩ := hs
    exact ⟨h1, h2, blk_own h3 hg hr, blk_own h4 hg hr, blk_own h5 hg hr, ownFrom_below (Nat.le_refl _) (by omega) s A B row h6 hg hr⟩
  case free =>
    intro s W v hs
    obtain ⟨acc, v2, h1, h2, h3, h4, h5, h6, h7, h8, h9, h10⟩ := hs
    exact ⟨acc, v2, h1, h2, (Below.heap_setCell W _ v _ (by simp)).trans h3, (Below.heap_setCell W _ v _ (by simp)).trans h4, (Below.heap_setCell W _ v _ (by simp)).trans h5, (Below.heap_setCell W _ v _ (by simp)).trans h6, (Below.heap_setCell W _ v _ (by simp)).trans h7,
      Kd.R_far (p := ⟨w.heap.size + 5, 0, none⟩) h8 (fun k hk => by show k ≠ w.heap.size + 5; omega) v, h9.setCell (by simp) _, by rw [World.size_setCell]; exact h10⟩
  case assign =>
    intro l x W K hK
    gi_wp2
    exact hK
  case body =>
    rintro l pre x W ⟨acc, v, h1, h2, b0, b1, b2, b3, b4, hO, hB, hs⟩ ⟨ys, hys⟩
    have hx := h1 (x :: ys) (by rw [← hys]; simp)
    have hys2 : ∀ zs, (pre ++ [x]) ++ zs = Sp.parts 10 a0 → zs = ys := fun zs hz => by rw [← hys] at hz; exact List.append_cancel_left hz
    have hpl : (Sp.parts 10 a0).length ≤ a0.size + 1 := parts_len 10 a0
    rw [← hys, List.length_append, List.length_append, List.length_singleton] at hpl
    have hnl : (pre ++ [x]).length = pre.length + 1 := by simp
    obtain ⟨n, hn⟩ : ∃ n, pre.length = n := ⟨_, rfl⟩
    rw [hn] at b4 hx hpl hnl
    have e1 : wrap64 ((n : Int) + 1) = (n : Int) + 1 := by unfold wrap64; omega
    have c3 : W.cell? ⟨w.heap.size + 1 + 1 + 1, 0, none⟩ = some v := (blk_cell b3 0).trans rfl
    have c4 : W.cell? ⟨w.heap.size + 1 + 1 + 1 + 1, 0, none⟩ = some (.int .i64 n) := (blk_cell b4 0).trans rfl
    have f3 : W.frozen? ⟨w.heap.size + 1 + 1 + 1, 0, none⟩ = false := blk_frozen b3 0
    have f4 : W.frozen? ⟨w.heap.size + 1 + 1 + 1 + 1, 0, none⟩ = false := blk_frozen b4 0
    -- where the line says nothing
    have skip_ : (x.toList = ([] : List UInt8) ∨ bt x 0 = 35) → ownPostK (Kp3 (w.heap.size + 5)) (script_Read.Inv line a0 r w) (script_Read.Out r w) (pre ++ [x]) W .normal { tmps := #[], defers := [] } (W.setCell ⟨w.heap.size + 1 + 1 + 1 + 1, 0, none⟩ (.int .i64 ((n : Int) + 1))) := by
      intro hc
      unfold script_Read.g at hx
      rw [if_pos hc] at hx
      refine ⟨KeepsOthers.setCell _ _ _, fun k h3 h4 => Below.heap_setCell _ _ _ _ (by simp <;> omega), acc, v, fun zs hz => by rw [hys2 zs hz, hnl]; exact hx, h2, ?_, ?_, ?_, ?_, ?_, ?_, Below.setCell hB (by simp <;> omega) _, by rw [World.size_setCell]; exact hs⟩
      · exact (Below.heap_setCell _ _ _ _ (by simp <;> omega)).trans b0
      · exact (Below.heap_setCell _ _ _ _ (by simp <;> omega)).trans b1
      · exact (Below.heap_setCell _ _ _ _ (by simp <;> omega)).trans b2
      · exact (Below.heap_setCell _ _ _ _ (by simp)).trans b3
      · rw [hnl]; exact one_setCell (u := .int .i64 ((n : Int) + 1)) b4
      · exact Kd.R_far (p := ⟨w.heap.size + 1 + 1 + 1 + 1, 0, none⟩) hO (fun k hk => by show k ≠ w.heap.size + 1 + 1 + 1 + 1; omega) _
    by_cases hx0 : x.toList = ([] : List UInt8)
    · have hsk := skip_ (.inl hx0)
      clear skip_
      gi_wp2
      exact hsk
    · have hpos : 0 < x.size := by
        rcases Nat.eq_zero_or_pos x.size with h0 | h0
        · exfalso
          have he : x = (⟨#[]⟩ : ByteArray) := ByteArray.ext (Array.eq_empty_of_size_eq_zero h0)
          exact hx0 (by rw [he, Lib.toList_data])
        · exact h0
      have hx5 : ∀ h : 0 < x.size, ((x[0]'h).toNat : Int) = bt x 0 := bt_at x 0
      have hpi : (0 < (x.size : Int)) = True := eq_true (by omega)
      have hpt := eq_true hpos
      have hE : x.toList.isEmpty = false := List.isEmpty_eq_false_iff.2 hx0
      by_cases h35 : bt x 0 = 35
      · have hsk := skip_ (.inr h35)
        clear skip_
        gi_wp2
        exact hsk
      · clear skip_
        have hq35 := beq_eq_false_iff_ne.mpr h35
        unfold script_Read.g at hx
        rw [if_neg (fun hc => hc.elim hx0 h35)] at hx
        obtain ⟨⟨q1, q2, q3, q4, q5, q6⟩, hl, hx⟩ := Option.bind_eq_some_iff.mp hx
        dsimp only at hx
        have hB1 : Below w.heap.size w (W.setCell ⟨w.heap.size + 1 + 1 + 1 + 1, 0, none⟩ (.int .i64 ((n : Int) + 1))) := Below.setCell hB (by simp <;> omega) _
        have hcl := hL x q1 q2 q3 q4 q5 q6 _ (hG.at hB1) hl
        have g0 := (Below.heap_setCell W ⟨w.heap.size + 1 + 1 + 1 + 1, 0, none⟩ (.int .i64 ((n : Int) + 1)) w.heap.size (by simp <;> omega)).trans b0
        have g1 := (Below.heap_setCell W ⟨w.heap.size + 1 + 1 + 1 + 1, 0, none⟩ (.int .i64 ((n : Int) + 1)) (w.heap.size + 1) (by simp <;> omega)).trans b1
        have g2 := (Below.heap_setCell W ⟨w.heap.size + 1 + 1 + 1 + 1, 0, none⟩ (.int .i64 ((n : Int) + 1)) (w.heap.size + 2) (by simp <;> omega)).trans b2
        have g3 := (Below.heap_setCell W ⟨w.heap.size + 1 + 1 + 1 + 1, 0, none⟩ (.int .i64 ((n : Int) + 1)) (w.heap.size + 3) (by simp)).trans b3
        have g4 := one_setCell (u := .int .i64 ((n : Int) + 1)) b4
        have gO := Kd.R_far (p := ⟨w.heap.size + 1 + 1 + 1 + 1, 0, none⟩) hO (fun k hk => by show k ≠ w.heap.size + 1 + 1 + 1 + 1; omega) (.int .i64 ((n : Int) + 1))
        have gs : w.heap.size + 8 ≤ (W.setCell ⟨w.heap.size + 1 + 1 + 1 + 1, 0, none⟩ (.int .i64 ((n : Int) + 1))).heap.size := by rw [World.size_setCell]; exact hs
        have gk : Kp3 (w.heap.size + 5) W (W.setCell ⟨w.heap.size + 1 + 1 + 1 + 1, 0, none⟩ (.int .i64 ((n : Int) + 1))) := fun k h3 h4 => Below.heap_setCell _ _ _ _ (by simp <;> omega)
        have go := KeepsOthers.setCell W ⟨w.heap.size + 1 + 1 + 1 + 1, 0, none⟩ (.int .i64 ((n : Int) + 1))
        clear hW0 d0 d1 d2 d3 d4 d5 d6 d7 q nw
        obtain ⟨A, cc, rfl, hcc, _⟩ := Kd.R_reads gO
        have arm := fun (w2 : World) (hb : Below (W.setCell ⟨w.heap.size + 1 + 1 + 1 + 1, 0, none⟩ (.int .i64 ((n : Int) + 1))).heap.size (W.setCell ⟨w.heap.size + 1 + 1 + 1 + 1, 0, none⟩ (.int .i64 ((n : Int) + 1))) w2) => And.intro ((hb.block _ (blk_lt g0)).trans g0) (And.intro ((hb.block _ (blk_lt g1)).trans g1) (And.intro ((hb.block _ (blk_lt g2)).trans g2) (And.intro ((hb.block _ (blk_lt g3)).trans g3) ((hb.block _ (blk_lt g4)).trans g4))))
        have hstop : ∀ (w2 Wd : World), Below (W.setCell ⟨w.heap.size + 1 + 1 + 1 + 1, 0, none⟩ (.int .i64 ((n : Int) + 1))).heap.size (W.setCell ⟨w.heap.size + 1 + 1 + 1 + 1, 0, none⟩ (.int .i64 ((n : Int) + 1))) w2 → w2.alloc (.cells #[.int .i64 q1, .string q2, .string q3, .string q4, .int .i64 q5] 28) = Wd →
            Wd.heap[w.heap.size]? = some (.cells #[.slice none 0 0] 33 (0, 0)) ∧ Wd.heap[w.heap.size + 1]? = some (.cells #[.int .i64 0] 3 (0, 0)) ∧ Wd.heap[w.heap.size + 2]? = some (.cells #[.int .i64 0] 34 (0, 0)) ∧ Wd.heap[w.heap.size + 4]? = some (.cells #[.int .i64 ((n : Int) + 1)] 3 (0, 0)) ∧ Below w.heap.size w Wd ∧ KeepsOthers W Wd ∧ Kp3 (w.heap.size + 5) W Wd := by
          intro w2 Wd hb hWd
          subst hWd
          obtain ⟨k0, k1, k2, k3, k4⟩ := arm w2 hb
          exact ⟨(Below.heap_alloc w2 _ _ (blk_lt k0)).trans k0, (Below.heap_alloc w2 _ _ (blk_lt k1)).trans k1, (Below.heap_alloc w2 _ _ (blk_lt k2)).trans k2, (Below.heap_alloc w2 _ _ (blk_lt k4)).trans k4, below_alloc (below_step hB1 hb) _, (go.trans (ko_below hb)).trans (KeepsOthers.alloc _ _), kp3_t gk (kp3_t (kp3_below hb (by omega)) (kp3_below (below_alloc (Below.refl _ _) _) (by have := hb.size; omega)))⟩
        have hfin : ∀ (Wd : World) (e : Int), Wd.heap[w.heap.size]? = some (.cells #[.slice none 0 0] 33 (0, 0)) → Wd.heap[w.heap.size + 1]? = some (.cells #[.int .i64 0] 3 (0, 0)) → Wd.heap[w.heap.size + 2]? = some (.cells #[.int .i64 0] 34 (0, 0)) → Below w.heap.size w Wd → KeepsOthers W Wd → Kp3 (w.heap.size + 5) W Wd →
            r = ([], (n : Int) + 1, e) → ownPostK (Kp3 (w.heap.size + 5)) (script_Read.Inv line a0 r w) (script_Read.Out r w) (pre ++ [x]) W .ret { tmps := #[], defers := [] } ((((Wd.setCell ⟨w.heap.size, 0, none⟩ (.slice none 0 0)).setCell ⟨w.heap.size + 1, 0, none⟩ (.int .i64 ((n : Int) + 1))).setCell ⟨w.heap.size + 1 + 1, 0, none⟩ (.int .i64 e)).drew) := by
          intro Wd e D0 D1 D2 DB DO DK hr
          subst hr
          refine ⟨(((DO.trans (KeepsOthers.setCell _ _ _)).trans (KeepsOthers.setCell _ _ _)).trans (KeepsOthers.setCell _ _ _)).trans (KeepsOthers.drew _), rfl, rfl, ?_, ?_, ?_, ?_⟩
          · exact (Below.heap_setCell _ _ _ _ (by simp <;> omega)).trans ((Below.heap_setCell _ _ _ _ (by simp)).trans (one_setCell (u := .slice none 0 0) D0))
          · exact (Below.heap_setCell _ _ _ _ (by simp)).trans (one_setCell (u := .int .i64 ((n : Int) + 1)) ((Below.heap_setCell _ _ _ _ (by simp)).trans D1))
          · exact one_setCell (u := .int .i64 e) ((Below.heap_setCell _ _ _ _ (by simp)).trans ((Below.heap_setCell _ _ _ _ (by simp <;> omega)).trans D2))
          · exact below_drew (Below.setCell (Below.setCell (Below.setCell DB (by simp) _) (by simp) _) (by simp <;> omega) _)
        by_cases h6 : q6 = 0
        · subst h6
          rw [if_pos rfl] at hx
          by_cases h200 : acc.length = 200
          · rw [if_pos h200] at hx
            have hl2 : ((acc.length : Int) == 200) = true := beq_iff_eq.mpr (by omega)
            gi_wp2_with (first | (refine ⟨trivial, (CallsIn.inRound l (callsIn_wide.2 hcl)).mono ?_⟩; rintro e w2 ⟨rfl, hb⟩; obtain ⟨k0, k1, k2, k3, k4⟩ := arm w2 hb; have nk := World.alloc_heap_new w2 (.cells #[.int .i64 q1, .string q2, .string q3, .string q4, .int .i64 q5] 28); have m3 := (Below.heap_alloc w2 (.cells #[.int .i64 q1, .string q2, .string q3, .string q4, .int .i64 q5] 28) _ (blk_lt k3)).trans k3; have c3w : (w2.alloc (.cells #[.int .i64 q1, .string q2, .string q3, .string q4, .int .i64 q5] 28)).cell? ⟨w.heap.size + 1 + 1 + 1, 0, none⟩ = some (.slice A acc.length cc) := (blk_cell m3 0).trans rfl; have f3w : (w2.alloc (.cells #[.int .i64 q1, .string q2, .string q3, .string q4, .int .i64 q5] 28)).frozen? ⟨w.heap.size + 1 + 1 + 1, 0, none⟩ = false := blk_frozen m3 0; have y0 : (w2.alloc (.cells #[.int .i64 q1, .string q2, .string q3, .string q4, .int .i64 q5] 28)).cell? ⟨w2.heap.size, 0, none⟩ = some (.int .i64 q1) := (blk_cell nk 0).trans rfl; have y1 : (w2.alloc (.cells #[.int .i64 q1, .string q2, .string q3, .string q4, .int .i64 q5] 28)).cell? ⟨w2.heap.size, 1, none⟩ = some (.string q2) := (blk_cell nk 1).trans rfl; have y2 : (w2.alloc (.cells #[.int .i64 q1, .string q2, .string q3, .string q4, .int .i64 q5] 28)).cell? ⟨w2.heap.size, 2, none⟩ = some (.string q3) := (blk_cell nk 2).trans rfl; have y3 : (w2.alloc (.cells #[.int .i64 q1, .string q2, .string q3, .string q4, .int .i64 q5] 28)).cell? ⟨w2.heap.size, 3, none⟩ = some (.string q4) := (blk_cell nk 3).trans rfl; have y4 : (w2.alloc (.cells #[.int .i64 q1, .string q2, .string q3, .string q4, .int .i64 q5] 28)).cell? ⟨w2.heap.size, 4, none⟩ = some (.int .i64 q5) := (blk_cell nk 4).trans rfl))
            obtain ⟨Wd, hWd⟩ : ∃ Wd, (w2.alloc (.cells #[.int .i64 q1, .string q2, .string q3, .string q4, .int .i64 q5] 28)) = Wd := ⟨_, rfl⟩
            rw [hWd] at m3 c3w f3w y0 y1 y2 y3 y4 nk ⊢
            obtain ⟨D0, D1, D2, D4, DB, DO, DK⟩ := hstop w2 Wd hb hWd
            have e0 : Wd.cell? ⟨w.heap.size, 0, none⟩ = some (.slice none 0 0) := (blk_cell (w := Wd) D0 0).trans rfl
            have e1 : Wd.cell? ⟨w.heap.size + 1, 0, none⟩ = some (.int .i64 0) := (blk_cell (w := Wd) D1 0).trans rfl
            have e2 : Wd.cell? ⟨w.heap.size + 1 + 1, 0, none⟩ = some (.int .i64 0) := (blk_cell (w := Wd) D2 0).trans rfl
            have e4 : Wd.cell? ⟨w.heap.size + 1 + 1 + 1 + 1, 0, none⟩ = some (.int .i64 ((n : Int) + 1)) := (blk_cell (w := Wd) D4 0).trans rfl
            have u0 : Wd.frozen? ⟨w.heap.size, 0, none⟩ = false := blk_frozen (w := Wd) D0 0
            have u1 : Wd.frozen? ⟨w.heap.size + 1, 0, none⟩ = false := blk_frozen (w := Wd) D1 0
            have u2 : Wd.frozen? ⟨w.heap.size + 1 + 1, 0, none⟩ = false := blk_frozen (w := Wd) D2 0
            refine script_Read.region_orders [[0, 1, 2, 3, 4], [0, 2, 1, 3, 4], [0, 2, 3, 1, 4], [1, 0, 2, 3, 4], [1, 2, 0, 3, 4], [2, 0, 1, 3, 4], [2, 0, 3, 1, 4], [2, 1, 0, 3, 4]] rfl (by kernel_rfl) ?_
            simp only [List.forall_mem_cons, List.not_mem_nil, false_implies, implies_true, and_true]
            refine ⟨?_, ?_, ?_, ?_, ?_, ?_, ?_, ?_⟩
            all_goals simp only [List.filterMap_cons, List.filterMap_nil]
            all_goals (gi_wp2; exact hfin Wd 8 D0 D1 D2 DB DO DK (by simpa using hx.symm))
          · rw [if_neg h200] at hx
            have hl2 : ((acc.length : Int) == 200) = false := beq_eq_false_iff_ne.mpr (by omega)
            have hmx : (201 : Nat) ≤ maxLen := by decide
            gi_wp2_with (first | (refine ⟨trivial, (CallsIn.inRound l (callsIn_wide.2 hcl)).mono ?_⟩; rintro e w2 ⟨rfl, hb⟩; obtain ⟨k0, k1, k2, k3, k4⟩ := arm w2 hb; have nk := World.alloc_heap_new w2 (.cells #[.int .i64 q1, .string q2, .string q3, .string q4, .int .i64 q5] 28); have m3 := (Below.heap_alloc w2 (.cells #[.int .i64 q1, .string q2, .string q3, .string q4, .int .i64 q5] 28) _ (blk_lt k3)).trans k3; have c3w : (w2.alloc (.cells #[.int .i64 q1, .string q2, .string q3, .string q4, .int .i64 q5] 28)).cell? ⟨w.heap.size + 1 + 1 + 1, 0, none⟩ = some (.slice A acc.length cc) := (blk_cell m3 0).trans rfl; have f3w : (w2.alloc (.cells #[.int .i64 q1, .string q2, .string q3, .string q4, .int .i64 q5] 28)).frozen? ⟨w.heap.size + 1 + 1 + 1, 0, none⟩ = false := blk_frozen m3 0; have y0 : (w2.alloc (.cells #[.int .i64 q1, .string q2, .string q3, .string q4, .int .i64 q5] 28)).cell? ⟨w2.heap.size, 0, none⟩ = some (.int .i64 q1) := (blk_cell nk 0).trans rfl; have y1 : (w2.alloc (.cells #[.int .i64 q1, .string q2, .string q3, .string q4, .int .i64 q5] 28)).cell? ⟨w2.heap.size, 1, none⟩ = some (.string q2) := (blk_cell nk 1).trans rfl; have y2 : (w2.alloc (.cells #[.int .i64 q1, .string q2, .string q3, .string q4, .int .i64 q5] 28)).cell? ⟨w2.heap.size, 2, none⟩ = some (.string q3) := (blk_cell nk 2).trans rfl; have y3 : (w2.alloc (.cells #[.int .i64 q1, .string q2, .string q3, .string q4, .int .i64 q5] 28)).cell? ⟨w2.heap.size, 3, none⟩ = some (.string q4) := (blk_cell nk 3).trans rfl; have y4 : (w2.alloc (.cells #[.int .i64 q1, .string q2, .string q3, .string q4, .int .i64 q5] 28)).cell? ⟨w2.heap.size, 4, none⟩ = some (.int .i64 q5) := (blk_cell nk 4).trans rfl) | (gi_at_builtin; refine script_Read.append_in k28 w.heap.size rfl _ _ 33 28 (.agg #[.int .i64 0, .string ⟨#[]⟩, .string ⟨#[]⟩, .string ⟨#[]⟩, .int .i64 0]) 64 rfl Tryz.underlying33 script_Read.inf rfl (by decide) (.slice A acc.length cc) acc ⟨q1, q2, q3, q4, q5⟩ [.int .i64 q1, .string q2, .string q3, .string q4, .int .i64 q5] (fun k => w.heap.size + 8 ≤ k) (fun _ => False) rfl ?hx (k28_mkM _ _ _ _) (fun _ hk => hk.elim) ?hf ?hO ?hb ?hl ?hl2 ?_; (case hx => simp [go_sem]); (case hf => intro k hk; have := hb.size; simp at hk; omega); (case hO => exact Kd.R_alloc (Kd.R_below gO hb) _); (case hb => have := hb.size; simp; omega); (case hl => omega); (case hl2 => omega); intro v1 w1 hR hg1; obtain ⟨A1, c1, rfl, hc1, _⟩ := Kd.R_reads hR; have hne : ∀ k, k < w.heap.size + 8 → some k ≠ (Value.slice A acc.length cc).ownBlock := fun k hk e => absurd (gO.1 k e.symm) (by omega); have n0 := blk_grown ((Below.heap_alloc w2 (.cells #[.int .i64 q1, .string q2, .string q3, .string q4, .int .i64 q5] 28) _ (blk_lt k0)).trans k0) hg1 (hne _ (by omega)); have n1 := blk_grown ((Below.heap_alloc w2 (.cells #[.int .i64 q1, .string q2, .string q3, .string q4, .int .i64 q5] 28) _ (blk_lt k1)).trans k1) hg1 (hne _ (by omega)); have n2 := blk_grown ((Below.heap_alloc w2 (.cells #[.int .i64 q1, .string q2, .string q3, .string q4, .int .i64 q5] 28) _ (blk_lt k2)).trans k2) hg1 (hne _ (by omega)); have n3 := blk_grown m3 hg1 (hne _ (by omega)); have n4 := blk_grown ((Below.heap_alloc w2 (.cells #[.int .i64 q1, .string q2, .string q3, .string q4, .int .i64 q5] 28) _ (blk_lt k4)).trans k4) hg1 (hne _ (by omega)); have z3 : w1.cell? ⟨w.heap.size + 1 + 1 + 1, 0, none⟩ = some (.slice A acc.length cc) := (blk_cell n3 0).trans rfl; have zf : w1.frozen? ⟨w.heap.size + 1 + 1 + 1, 0, none⟩ = false := blk_frozen n3 0))
            have hmA : ∀ W9 : World, W9 = w2.alloc (.cells #[.int .i64 q1, .string q2, .string q3, .string q4, .int .i64 q5] 28) → KeepsOthers W W9 ∧ Kp3 (w.heap.size + 5) W W9 ∧ Below w.heap.size w W9 ∧ w.heap.size + 8 ≤ W9.heap.size := fun W9 e9 => by
              subst e9
              exact ⟨(go.trans (ko_below hb)).trans (KeepsOthers.alloc _ _), kp3_t gk (kp3_t (kp3_below hb (by omega)) (kp3_below (below_alloc (Below.refl _ _) _) (by have := hb.size; omega))), below_alloc (below_step hB1 hb) _, by have := hb.size; simp; omega⟩
            obtain ⟨o1, o2, o3, o4⟩ := hmA _ rfl
            have hW1 : w.heap.size + 8 ≤ w1.heap.size := Nat.le_trans o4 hg1.size
            have hrow : ∀ k, (Value.slice A acc.length cc).ownBlock = some k → w.heap.size + 8 ≤ k := fun k hk => gO.1 k hk
            refine ⟨(o1.trans (KeepsOthers.of_grownBy hg1 ?_)).trans (KeepsOthers.setCell _ _ _), kp3_t o2 (kp3_t (fun k h3 h4 => hg1.block k (by omega) (fun e => by have := hrow k e.symm; omega)) (fun k h3 h4 => Below.heap_setCell _ _ _ _ (by simp <;> omega))), acc ++ [⟨q1, q2, q3, q4, q5⟩], .slice A1 (acc.length + 1) c1, ?_, by simp; omega, ?_, ?_, ?_, ?_, ?_, ?_, ?_, by rw [World.size_setCell]; exact hW1⟩
            · intro j o hj ho
              obtain ⟨_, _, _, q, _, cells, hc⟩ := (Kd.R_bound (Kd.R_alloc (Kd.R_below gO hb) _)).1 j hj
              rw [hc] at ho
              obtain rfl := Option.some.inj ho
              rfl
            · intro zs hz
              rw [hys2 zs hz, hnl]
              exact hx
            · exact (Below.heap_setCell _ _ _ _ (by simp <;> omega)).trans n0
            · exact (Below.heap_setCell _ _ _ _ (by simp <;> omega)).trans n1
            · exact (Below.heap_setCell _ _ _ _ (by simp <;> omega)).trans n2
            · exact one_setCell (u := .slice A1 (acc.length + 1) c1) n3
            · rw [hnl]; exact (Below.heap_setCell _ _ _ _ (by simp)).trans n4
            · rw [List.length_append, List.length_singleton] at hR
              exact Kd.R_far (p := ⟨w.heap.size + 1 + 1 + 1, 0, none⟩) hR (fun k hk => by show k ≠ w.heap.size + 1 + 1 + 1; omega) _
            · exact Below.setCell (Below.grown o3 hg1 (by omega) (fun k hk => by have := hrow k hk; omega)) (by simp <;> omega) _
        · rw [if_neg h6] at hx
          have hq6 : (q6 == 0) = false := beq_eq_false_iff_ne.mpr h6
          gi_wp2_with (first | (refine ⟨trivial, (CallsIn.inRound l (callsIn_wide.2 hcl)).mono ?_⟩; rintro e w2 ⟨rfl, hb⟩; obtain ⟨k0, k1, k2, k3, k4⟩ := arm w2 hb; have nk := World.alloc_heap_new w2 (.cells #[.int .i64 q1, .string q2, .string q3, .string q4, .int .i64 q5] 28); have m3 := (Below.heap_alloc w2 (.cells #[.int .i64 q1, .string q2, .string q3, .string q4, .int .i64 q5] 28) _ (blk_lt k3)).trans k3; have c3w : (w2.alloc (.cells #[.int .i64 q1, .string q2, .string q3, .string q4, .int .i64 q5] 28)).cell? ⟨w.heap.size + 1 + 1 + 1, 0, none⟩ = some (.slice A acc.length cc) := (blk_cell m3 0).trans rfl; have f3w : (w2.alloc (.cells #[.int .i64 q1, .string q2, .string q3, .string q4, .int .i64 q5] 28)).frozen? ⟨w.heap.size + 1 + 1 + 1, 0, none⟩ = false := blk_frozen m3 0; have y0 : (w2.alloc (.cells #[.int .i64 q1, .string q2, .string q3, .string q4, .int .i64 q5] 28)).cell? ⟨w2.heap.size, 0, none⟩ = some (.int .i64 q1) := (blk_cell nk 0).trans rfl; have y1 : (w2.alloc (.cells #[.int .i64 q1, .string q2, .string q3, .string q4, .int .i64 q5] 28)).cell? ⟨w2.heap.size, 1, none⟩ = some (.string q2) := (blk_cell nk 1).trans rfl; have y2 : (w2.alloc (.cells #[.int .i64 q1, .string q2, .string q3, .string q4, .int .i64 q5] 28)).cell? ⟨w2.heap.size, 2, none⟩ = some (.string q3) := (blk_cell nk 2).trans rfl; have y3 : (w2.alloc (.cells #[.int .i64 q1, .string q2, .string q3, .string q4, .int .i64 q5] 28)).cell? ⟨w2.heap.size, 3, none⟩ = some (.string q4) := (blk_cell nk 3).trans rfl; have y4 : (w2.alloc (.cells #[.int .i64 q1, .string q2, .string q3, .string q4, .int .i64 q5] 28)).cell? ⟨w2.heap.size, 4, none⟩ = some (.int .i64 q5) := (blk_cell nk 4).trans rfl))
          obtain ⟨Wd, hWd⟩ : ∃ Wd, (w2.alloc (.cells #[.int .i64 q1, .string q2, .string q3, .string q4, .int .i64 q5] 28)) = Wd := ⟨_, rfl⟩
          rw [hWd] at m3 c3w f3w y0 y1 y2 y3 y4 nk ⊢
          obtain ⟨D0, D1, D2, D4, DB, DO, DK⟩ := hstop w2 Wd hb hWd
          have e0 : Wd.cell? ⟨w.heap.size, 0, none⟩ = some (.slice none 0 0) := (blk_cell (w := Wd) D0 0).trans rfl
          have e1 : Wd.cell? ⟨w.heap.size + 1, 0, none⟩ = some (.int .i64 0) := (blk_cell (w := Wd) D1 0).trans rfl
          have e2 : Wd.cell? ⟨w.heap.size + 1 + 1, 0, none⟩ = some (.int .i64 0) := (blk_cell (w := Wd) D2 0).trans rfl
          have e4 : Wd.cell? ⟨w.heap.size + 1 + 1 + 1 + 1, 0, none⟩ = some (.int .i64 ((n : Int) + 1)) := (blk_cell (w := Wd) D4 0).trans rfl
          have u0 : Wd.frozen? ⟨w.heap.size, 0, none⟩ = false := blk_frozen (w := Wd) D0 0
          have u1 : Wd.frozen? ⟨w.heap.size + 1, 0, none⟩ = false := blk_frozen (w := Wd) D1 0
          have u2 : Wd.frozen? ⟨w.heap.size + 1 + 1, 0, none⟩ = false := blk_frozen (w := Wd) D2 0
          refine script_Read.region_orders [[0, 1, 2, 3, 4], [0, 2, 1, 3, 4], [0, 2, 3, 1, 4], [1, 0, 2, 3, 4], [1, 2, 0, 3, 4], [2, 0, 1, 3, 4], [2, 0, 3, 1, 4], [2, 1, 0, 3, 4]] rfl (by kernel_rfl) ?_
          simp only [List.forall_mem_cons, List.not_mem_nil, false_implies, implies_true, and_true]
          refine ⟨?_, ?_, ?_, ?_, ?_, ?_, ?_, ?_⟩
          all_goals simp only [List.filterMap_cons, List.filterMap_nil]
          all_goals (gi_wp2; exact hfin Wd q6 D0 D1 D2 DB DO DK (by simpa using hx.symm))
  case done =>
    rintro D ys W hD rfl ⟨acc, v, h1, h2, b0, b1, b2, b3, b4, hO, hB, hs⟩ hK
    obtain rfl : (acc, (0 : Int), (0 : Int)) = r := by simpa [script_Read.g] using h1 [] (by simp)
    obtain ⟨rfl, rfl, rfl⟩ : r1 = acc ∧ r2 = 0 ∧ r3 = 0 := by simpa using hr
    obtain ⟨A, cc, rfl, hcc, _⟩ := Kd.R_reads hO
    have c0 : W.cell? ⟨w.heap.size, 0, none⟩ = some (.slice none 0 0) := (blk_cell b0 0).trans rfl
    have c1 : W.cell? ⟨w.heap.size + 1, 0, none⟩ = some (.int .i64 0) := (blk_cell b1 0).trans rfl
    have c2 : W.cell? ⟨w.heap.size + 1 + 1, 0, none⟩ = some (.int .i64 0) := (blk_cell b2 0).trans rfl
    have c3 : W.cell? ⟨w.heap.size + 1 + 1 + 1, 0, none⟩ = some (.slice A r1.length cc) := (blk_cell b3 0).trans rfl
    have f0 : W.frozen? ⟨w.heap.size, 0, none⟩ = false := blk_frozen b0 0
    have f1 : W.frozen? ⟨w.heap.size + 1, 0, none⟩ = false := blk_frozen b1 0
    have f2 : W.frozen? ⟨w.heap.size + 1 + 1, 0, none⟩ = false := blk_frozen b2 0
    gi_wp2
    have g0 : (((W.setCell ⟨w.heap.size, 0, none⟩ (.slice A r1.length cc)).setCell ⟨w.heap.size + 1, 0, none⟩ (.int .i64 0)).setCell ⟨w.heap.size + 1 + 1, 0, none⟩ (.int .i64 0)).heap[w.heap.size]? = some (.cells #[.slice A r1.length cc] 33 (0, 0)) := (Below.heap_setCell _ _ _ _ (by simp <;> omega)).trans ((Below.heap_setCell _ _ _ _ (by simp)).trans (one_setCell (u := .slice A r1.length cc) b0))
    have g1 : (((W.setCell ⟨w.heap.size, 0, none⟩ (.slice A r1.length cc)).setCell ⟨w.heap.size + 1, 0, none⟩ (.int .i64 0)).setCell ⟨w.heap.size + 1 + 1, 0, none⟩ (.int .i64 0)).heap[w.heap.size + 1]? = some (.cells #[.int .i64 0] 3 (0, 0)) := (Below.heap_setCell _ _ _ _ (by simp)).trans (one_setCell (u := .int .i64 0) ((Below.heap_setCell _ _ _ _ (by simp)).trans b1))
    have g2 : (((W.setCell ⟨w.heap.size, 0, none⟩ (.slice A r1.length cc)).setCell ⟨w.heap.size + 1, 0, none⟩ (.int .i64 0)).setCell ⟨w.heap.size + 1 + 1, 0, none⟩ (.int .i64 0)).heap[w.heap.size + 1 + 1]? = some (.cells #[.int .i64 0] 34 (0, 0)) := one_setCell (u := .int .i64 0) ((Below.heap_setCell _ _ _ _ (by simp)).trans ((Below.heap_setCell _ _ _ _ (by simp <;> omega)).trans b2))
    have gR := Kd.R_far (p := ⟨w.heap.size + 1 + 1, 0, none⟩) (Kd.R_far (p := ⟨w.heap.size + 1, 0, none⟩) (Kd.R_far (p := ⟨w.heap.size, 0, none⟩) hO (fun k hk => by show k ≠ w.heap.size; omega) (.slice A r1.length cc)) (fun k hk => by show k ≠ w.heap.size + 1; omega) (.int .i64 0)) (fun k hk => by show k ≠ w.heap.size + 1 + 1; omega) (.int .i64 0)
    have gB := Below.setCell (p := ⟨w.heap.size + 1 + 1, 0, none⟩) (Below.setCell (p := ⟨w.heap.size + 1, 0, none⟩) (Below.setCell (p := ⟨w.heap.size, 0, none⟩) hB (by simp) (.slice A r1.length cc)) (by simp) (.int .i64 0)) (by simp <;> omega) (.int .i64 0)
    have hK' := (((KeepsOthers.setCell W ⟨w.heap.size, 0, none⟩ (.slice A r1.length cc)).trans (KeepsOthers.setCell _ ⟨w.heap.size + 1, 0, none⟩ (.int .i64 0))).trans (KeepsOthers.setCell _ ⟨w.heap.size + 1 + 1, 0, none⟩ (.int .i64 0))).same D _ hK rfl
    refine ⟨by simp, .inl ⟨_, _, rfl, run_takeDeferred hK', ?_⟩⟩
    have e0 := cell_kept ((blk_cell g0 0).trans rfl) (grownBy_putObj' _ D (.deferred none)) (fun r e => by cases e; exact ⟨_, hK', rfl⟩)
    have e1 := cell_kept ((blk_cell g1 0).trans rfl) (grownBy_putObj' _ D (.deferred none)) (fun r e => by cases e; exact ⟨_, hK', rfl⟩)
    have e2 := cell_kept ((blk_cell g2 0).trans rfl) (grownBy_putObj' _ D (.deferred none)) (fun r e => by cases e; exact ⟨_, hK', rfl⟩)
    refine ⟨.tuple #[.slice A r1.length cc, .int .i64 0, .int .i64 0], ?_, .slice A r1.length cc, rfl, Kd.R_mono (script_Read.own_turn (n := 0) gR (grownBy_putObj' _ D (.deferred none)) (fun r e => by cases e; exact ⟨Nat.zero_le _, _, hK', rfl⟩)) (fun _ _ => trivial), gB.trans (belowK_b (w := w) (Nat.le_refl _) _ D _ _ (by omega) hK' rfl rfl)⟩
    simp [results, Tryz.f12, go_sem, e0, e1, e2]
  case stop =>
    rintro D c pre W hD hpre ⟨rfl, hr1, b0, b1, b2, hB⟩ hK
    subst hr
    obtain rfl : r1 = [] := hr1
    gi_wp2
    refine ⟨by simp, .inl ⟨_, _, rfl, run_takeDeferred hK, ?_⟩⟩
    have e0 := cell_kept ((blk_cell b0 0).trans rfl) (grownBy_putObj' _ D (.deferred none)) (fun r e => by cases e; exact ⟨_, hK, rfl⟩)
    have e1 := cell_kept ((blk_cell b1 0).trans rfl) (grownBy_putObj' _ D (.deferred none)) (fun r e => by cases e; exact ⟨_, hK, rfl⟩)
    have e2 := cell_kept ((blk_cell b2 0).trans rfl) (grownBy_putObj' _ D (.deferred none)) (fun r e => by cases e; exact ⟨_, hK, rfl⟩)
    refine ⟨.tuple #[.slice none 0 0, .int .i64 r2, .int .i64 r3], ?_, .slice none 0 0, rfl, Kd.R_nil _ _ _ _ _, hB.trans (belowK_b (w := w) (Nat.le_refl _) _ D _ _ (by omega) hK rfl rfl)⟩
    simp [results, Tryz.f12, go_sem, e0, e1, e2]
end
def script_Read.f (k : Nat) (a0 : ByteArray) : Option (List S28 × Int × Int) := if a0.size ≤ 140737488355327 then (script_Read.g (script_line.f k) [] 0 (Sp.parts 10 a0)) else none
theorem script_Read.mono : ∀ a0 k, LeO (script_Read.f k a0) (script_Read.f (k + 1) a0) := by
  intro a0 k
  unfold script_Read.f
  exact LeO.ite (script_Read.g_mono _ _ (fun x => script_line.mono x k) _ _ _) (LeO.none _)
theorem script_Read.calls (k : Nat) (a0 : ByteArray) (r1 : List S28) (r2 : Int) (r3 : Int) (w : World) (hG : Amb w) (h : script_Read.f k a0 = some (r1, r2, r3)) :
    Calls Tryz.prog 12 #[.string a0] w fun e w' => ∃ v0_ : Value, e = .returned (.tuple #[v0_, .int .i64 r2, .int .i64 r3]) ∧ Kd.R k28 28 w' w.heap.size (fun _ => True) v0_ r1 ∧ Below w.heap.size w w' := by
 unfold script_Read.f at h
 by_cases h0 : a0.size ≤ 140737488355327
 ·rw [if_pos h0] at h
  exact script_Read.walk (script_line.f k) (fun x r1 r2 r3 r4 r5 r6 w hw hx => script_line.calls k x r1 r2 r3 r4 r5 r6 w hw hx) a0 r1 r2 r3 w hG h0 h
 ·rw [if_neg h0] at h; cases h

/-! ### bulletinlaw48_works: function 4 -/
def bulletinlaw48_works.f (k : Nat)  : Option (Bool) := (script_Read.f k (⟨#[109, 97, 105, 108, 32, 97, 64, 98, 32, 100, 101, 118, 64, 120, 46, 111, 114, 103, 32, 104, 105, 92, 114, 92, 110, 10]⟩ : ByteArray)).bind fun bt296 => (if bt296.2.2 = 0 then (if bt296.2.1 = 0 then (if (bt296.1.length : Int) = 1 then (if 0 < (bt296.1.length : Int) then (if (((rd_T28 bt296.1 0).f0) == 3 && ((((rd_T28 bt296.1 0).f1).toList) == ([97, 64, 98] : List UInt8) && ((((rd_T28 bt296.1 0).f2).toList) == ([100, 101, 118, 64, 120, 46, 111, 114, 103] : List UInt8) && ((((rd_T28 bt296.1 0).f3).toList) == ([104, 105, 13, 10] : List UInt8) && (((rd_T28 bt296.1 0).f4) == 0))))) = true then ((script_Show.f k ((rd_T28 bt296.1 0).f0) ((rd_T28 bt296.1 0).f1) ((rd_T28 bt296.1 0).f2) ((rd_T28 bt296.1 0).f3) ((rd_T28 bt296.1 0).f4)).bind fun t303 => (some (t303.toList == ([109, 97, 105, 108, 32, 97, 64, 98, 32, 100, 101, 118, 64, 120, 46, 111, 114, 103, 32, 104, 105, 92, 114, 92, 110] : List UInt8)))) else (none)) else (none)) else (none)) else (none)) else (none))
theorem bulletinlaw48_works.mono : ∀ k, LeO (bulletinlaw48_works.f k ) (bulletinlaw48_works.f (k + 1) ) := by
  intro  k
  unfold bulletinlaw48_works.f
  repeat' first | (with_reducible first | exact script_Read.mono _ _ | exact script_Show.mono _ _ _ _ _ _ | exact LeO.refl _ | exact LeO.none _ | refine LeO.ite ?_ ?_ | refine LeO.bind ?_ (fun _ => ?_)) | exact script_Read.mono _ _ | exact script_Show.mono _ _ _ _ _ _ | exact LeO.none _ | refine LeO.ite ?_ ?_ | refine LeO.bind ?_ (fun _ => ?_)
set_option maxHeartbeats 8000000 in
set_option maxRecDepth 100000 in
theorem bulletinlaw48_works.calls (k : Nat)  (r : Bool) (w : World) (hG : Amb w) (h : bulletinlaw48_works.f k  = some r) :
    Calls Tryz.prog 4 #[] w fun e w' => e = .returned (.bool r) ∧ Below w.heap.size w w' := by
 have hu28 := Tryz.underlying28
 have HB := Aside0.mk (Below.refl w.heap.size w)
 unfold bulletinlaw48_works.f at h
 have H := h
 clear h
 have HG := Aside0.mk hG
 clear hG
 replace H := Option.bind_eq_some_iff.mp H
 obtain ⟨⟨t296, t297, t298⟩, A10, H⟩ := H
 try dsimp only at H
 have A1 := Aside0.mk A10
 clear A10
 obtain ⟨c2, H⟩ := iteS H
 have c2b0 := beq_iff_eq.mpr c2
 have c2b1 := bne_eq_false_iff_eq.mpr c2
 clear c2
 obtain ⟨c3, H⟩ := iteS H
 have c3b0 := beq_iff_eq.mpr c3
 have c3b1 := bne_eq_false_iff_eq.mpr c3
 clear c3
 obtain ⟨c4, H⟩ := iteS H
 have c4b0 := beq_iff_eq.mpr c4
 have c4b1 := bne_eq_false_iff_eq.mpr c4
 clear c4
 obtain ⟨c5, H⟩ := iteS H
 have c5b0 := decide_eq_true c5
 have c5b1 : decide (0 < t296.length) = true := decide_eq_true (by omega)
 clear c5
 obtain ⟨c6, H⟩ := iteS H
 have c6b0 : (((rd_T28 t296 0).f0) == 3 && ((((rd_T28 t296 0).f1).toList) == ([97, 64, 98] : List UInt8) && ((((rd_T28 t296 0).f2).toList) == ([100, 101, 118, 64, 120, 46, 111, 114, 103] : List UInt8) && ((((rd_T28 t296 0).f3).toList) == ([104, 105, 13, 10] : List UInt8) && (((rd_T28 t296 0).f4) == 0))))) = true := c6
 (try (have c6b1 : decide (((rd_T28 t296 0).f0) = 3 && ((((rd_T28 t296 0).f1).toList) == ([97, 64, 98] : List UInt8) && ((((rd_T28 t296 0).f2).toList) == ([100, 101, 118, 64, 120, 46, 111, 114, 103] : List UInt8) && ((((rd_T28 t296 0).f3).toList) == ([104, 105, 13, 10] : List UInt8) && (((rd_T28 t296 0).f4) == 0))))) = true := by simpa using c6))
 (try (have c6b2 : (((rd_T28 t296 0).f0) == 3 && ((((rd_T28 t296 0).f1).toList) == ([97, 64, 98] : List UInt8) && ((((rd_T28 t296 0).f2).toList) == ([100, 101, 118, 64, 120, 46, 111, 114, 103] : List UInt8) && ((((rd_T28 t296 0).f3).toList) == ([104, 105, 13, 10] : List UInt8) && (((rd_T28 t296 0).f4) == 0))))) = true := by simpa using c6))
 clear c6
 replace H := Option.bind_eq_some_iff.mp H
 obtain ⟨t303, A70, H⟩ := H
 try dsimp only at H
 have A7 := Aside0.mk A70
 clear A70
 obtain rfl := Option.some.inj H
 go_enter Tryz.func4, Tryz.ntmps4
 go_wp2_with (first | ((with_reducible refine gc 12 rfl ?_); refine gl_ (some 5) Tryz.func12 #[.string (⟨#[109, 97, 105, 108, 32, 97, 64, 98, 32, 100, 101, 118, 64, 120, 46, 111, 114, 103, 32, 104, 105, 92, 114, 92, 110, 10]⟩ : ByteArray)] ?_; (with_reducible refine (script_Read.calls k (⟨#[109, 97, 105, 108, 32, 97, 64, 98, 32, 100, 101, 118, 64, 120, 46, 111, 114, 103, 32, 104, 105, 92, 114, 92, 110, 10]⟩ : ByteArray) t296 t297 t298 _ ?side1 A1.out).mono ?_); (case side1 => exact Amb.at HG.out blw); rintro e w8 ⟨v299, rfl, ho0, hb⟩; refine ⟨_, rfl, ?_⟩; have HO300 := Aside0.mk (Kd.R_lower ho0 (below_size blw)); replace HB := Aside0.mk (below_step blw hb); (try clear hb); (try clear ho0); obtain ⟨Ao9, co9, eo9⟩ := Kd.R_slice HO300.out; subst eo9; have p301 : 0 ≤ (0 : Int) := (by omega); have q301 : 0 < (t296.length : Int) := od_; obtain ⟨ad301, e301, hx301_0, hx301_1, hx301_2, hx301_3, hx301_4⟩ := at_T28 (Kd.R_reads' HO300.out).2.2 0 p301 q301; cases e301; have qi301 : (0 < t296.length) = True := eq_true (by omega); (try rw [show ((0 : Int)).toNat = 0 from rfl] at hx301_0); (try rw [show 0 * 5 = 0 from rfl] at hx301_0); (try rw [Addr.add_zero'] at hx301_0); (try rw [show ((0 : Int)).toNat = 0 from rfl] at hx301_1); (try rw [show 0 * 5 = 0 from rfl] at hx301_1); (try rw [Addr.add_zero'] at hx301_1); (try rw [show ((0 : Int)).toNat = 0 from rfl] at hx301_2); (try rw [show 0 * 5 = 0 from rfl] at hx301_2); (try rw [Addr.add_zero'] at hx301_2); (try rw [show ((0 : Int)).toNat = 0 from rfl] at hx301_3); (try rw [show 0 * 5 = 0 from rfl] at hx301_3); (try rw [Addr.add_zero'] at hx301_3); (try rw [show ((0 : Int)).toNat = 0 from rfl] at hx301_4); (try rw [show 0 * 5 = 0 from rfl] at hx301_4); (try rw [Addr.add_zero'] at hx301_4); replace p301 := eq_true p301; replace q301 := eq_true q301; have p302 : 0 ≤ (0 : Int) := (by omega); have q302 : 0 < (t296.length : Int) := od_; obtain ⟨ad302, e302, hx302_0, hx302_1, hx302_2, hx302_3, hx302_4⟩ := at_T28 (Kd.R_reads' HO300.out).2.2 0 p302 q302; obtain rfl : ad301 = ad302 := (by injection e302); have qi302 : (0 < t296.length) = True := eq_true (by omega); (try rw [show ((0 : Int)).toNat = 0 from rfl] at hx302_0); (try rw [show 0 * 5 = 0 from rfl] at hx302_0); (try rw [Addr.add_zero'] at hx302_0); (try rw [show ((0 : Int)).toNat = 0 from rfl] at hx302_1); (try rw [show 0 * 5 = 0 from rfl] at hx302_1); (try rw [Addr.add_zero'] at hx302_1); (try rw [show ((0 : Int)).toNat = 0 from rfl] at hx302_2); (try rw [show 0 * 5 = 0 from rfl] at hx302_2); (try rw [Addr.add_zero'] at hx302_2); (try rw [show ((0 : Int)).toNat = 0 from rfl] at hx302_3); (try rw [show 0 * 5 = 0 from rfl] at hx302_3); (try rw [Addr.add_zero'] at hx302_3); (try rw [show ((0 : Int)).toNat = 0 from rfl] at hx302_4); (try rw [show 0 * 5 = 0 from rfl] at hx302_4); (try rw [Addr.add_zero'] at hx302_4); replace p302 := eq_true p302; replace q302 := eq_true q302) | (go_at_call 7; (with_reducible refine (script_Show.calls k ((rd_T28 t296 0).f0) ((rd_T28 t296 0).f1) ((rd_T28 t296 0).f2) ((rd_T28 t296 0).f3) ((rd_T28 t296 0).f4) t303 _ ?side1 A7.out).mono ?_); (case side1 => exact Amb.at HG.out blw); rintro e w10 ⟨rfl, hb⟩; replace HO300 := Aside0.mk (Kd.R_below (by (with_reducible repeat (first | apply Kd.R_alloc | apply Kd.R_drewN | apply Kd.R_drew)); exact HO300.out) hb); replace HB := Aside0.mk (below_step blw hb); (try clear hb)))
 go_ret
 exact ⟨by first | rfl | (simp [errW_none, errW_some] <;> rfl) | (simp [*, errW_none, errW_some] <;> rfl), blw⟩

/-! ### bulletinref48_value: function 14 -/
def bulletinref48_value.j0 : Nat → Int → Bool → Option (Int)
  | 0, _, _ => none
  | k + 1, x0, x8 => if x8 = true then (some (wrap64 ((wrap64 (x0)) - 48))) else (if x0 ≥ 97 then (if x0 ≤ 102 then (some (wrap64 ((wrap64 (x0)) - 87))) else (some (-1))) else (some (-1)))
def bulletinref48_value.f (k : Nat) (a0 : Int) : Option (Int) := if a0 ≥ 48 then (bulletinref48_value.j0 k a0 (decide (a0 ≤ 57))) else (bulletinref48_value.j0 k a0 false)
theorem bulletinref48_value.mono_l : ∀ k, (∀ y0 y1, LeO (bulletinref48_value.j0 k y0 y1) (bulletinref48_value.j0 (k + 1) y0 y1))
  | 0 => fun _ _ r h => by simp [bulletinref48_value.j0] at h
  | k + 1 => by
    have ih0 := bulletinref48_value.mono_l k
    · intro y0 y1
      unfold bulletinref48_value.j0
      repeat' first | (with_reducible first | exact ih0 _ _ | exact LeO.refl _ | exact LeO.none _ | refine LeO.ite ?_ ?_ | refine LeO.bind ?_ (fun _ => ?_)) | exact ih0 _ _ | exact LeO.none _ | refine LeO.ite ?_ ?_ | refine LeO.bind ?_ (fun _ => ?_)
theorem bulletinref48_value.mono : ∀ a0 k, LeO (bulletinref48_value.f k a0) (bulletinref48_value.f (k + 1) a0) := by
  intro a0 k
  have ih0 := bulletinref48_value.mono_l k
  unfold bulletinref48_value.f
  repeat' first | (with_reducible first | exact ih0 _ _ | exact LeO.refl _ | exact LeO.none _ | refine LeO.ite ?_ ?_ | refine LeO.bind ?_ (fun _ => ?_)) | exact ih0 _ _ | exact LeO.none _ | refine LeO.ite ?_ ?_ | refine LeO.bind ?_ (fun _ => ?_)
set_option maxHeartbeats 8000000 in
set_option maxRecDepth 100000 in
theorem bulletinref48_value.calls (k : Nat) (a0 : Int) (r : Int) (w : World) (h : bulletinref48_value.f k a0 = some r) :
    Calls Tryz.prog 14 #[.int .u8 a0] w fun e w' => e = .returned (.int .i64 r) ∧ Drawn0 w w' := by
 unfold bulletinref48_value.f at h
 have H := h
 clear h
 have HC2 := Aside0.mk H
 clear H
 go_enter Tryz.func14, Tryz.ntmps14
 go_upto_region 1 with (fail)
 go_cut [8] (fun v8 wc => ∃ (kq : Nat) (x8_1 : Bool), v8 = .bool x8_1 ∧ Aside0 (bulletinref48_value.j0 kq a0 x8_1 = some r) ∧ Aside0 (kq ≤ k) ∧ Drawn0 w wc)
 case first =>
  have H := HC2.out
  clear HC2
  by_cases c3 : a0 ≥ 48
  ·rw [if_pos c3] at H
   have c3b0 : decide (48 ≤ a0) = true := decide_eq_true c3
   clear c3
   (first | rw [c3b0] | (simp only [i64_w, i32_w]; rw [c3b0]) | skip)
   have H' := Aside0.mk H
   clear H
   go_wp2
   go_meet
   case rel => exact ⟨_, (decide (a0 ≤ 57)), eqs, H', omk, drw⟩
  ·rw [if_neg c3] at H
   have c3b0 : decide (48 ≤ a0) = false := decide_eq_false c3
   clear c3
   (first | rw [c3b0] | (simp only [i64_w, i32_w]; rw [c3b0]) | skip)
   have H' := Aside0.mk H
   clear H
   go_wp2
   go_meet
   case rel => exact ⟨_, (false), eqs, H', omk, drw⟩
 case rest =>
  clear HC2
  try clear c1
  try clear p2
  try clear c3
  try clear c3b0
  obtain ⟨kq, x8_1, rfl, HA, HJ1, ⟨mc1, rfl⟩⟩ := hcut
  cases kq with
  | zero => exact absurd HA.out (by simp [bulletinref48_value.j0])
  | succ kj1 =>
   have H := HA.out
   clear HA
   simp only [bulletinref48_value.j0] at H
   by_cases c4 : x8_1 = true
   ·subst c4
    rw [if_pos rfl] at H
    obtain rfl := Option.some.inj H
    go_wp2
    go_ret
    exact ⟨eqs, drw⟩
   ·replace c4 := Bool.eq_false_iff.mpr c4
    subst c4
    rw [if_neg nft] at H
    by_cases c5 : a0 ≥ 97
    ·rw [if_pos c5] at H
     have c5b0 : decide (97 ≤ a0) = true := decide_eq_true c5
     clear c5
     by_cases c6 : a0 ≤ 102
     ·rw [if_pos c6] at H
      have c6b0 := decide_eq_true c6
      clear c6
      obtain rfl := Option.some.inj H
      go_wp2
      go_ret
      exact ⟨eqs, drw⟩
     ·rw [if_neg c6] at H
      have c6b0 := decide_eq_false c6
      clear c6
      obtain rfl := Option.some.inj H
      go_wp2
      go_ret
      exact ⟨eqs, drw⟩
    ·rw [if_neg c5] at H
     have c5b0 : decide (97 ≤ a0) = false := decide_eq_false c5
     clear c5
     obtain rfl := Option.some.inj H
     go_wp2
     go_ret
     exact ⟨eqs, drw⟩

end Go.Proofs.YtcgfaagadejpmaaGreatDoor.Q
