-- Written by a program of this session (wip/myprint) out of the translation, for YtcpmoolpbeeedaaGreatDoor.
import Derived.Test.YtcpmoolpbeeedaaGreatDoorQ0
import Derived.Test.YtcpmoolpbeeedaaGreatDoorQ21
namespace Go.Proofs.YtcpmoolpbeeedaaGreatDoor.Q
open Go.RowKit Go.Proofs.YtcpmoolpbeeedaaGreatDoorW.PrintWords Go.Proofs.YtcpmoolpbeeedaaGreatDoorW.PrintLast Go.Proofs.YtcpmoolpbeeedaaGreatDoorW.PrintMore Go.Proofs.YtcpmoolpbeeedaaGreatDoorW.PrintSq
attribute [local go_sem] max2_int min2_int max_two min_two max_three min_three max_four min_four   -- for this text's walks alone
set_option linter.unusedVariables false
set_option linter.unusedSimpArgs false

/-! ### bulletinref22_Of: function 56 -/
mutual
def bulletinref22_Of.l0 : Nat → Int → Int → Int → Int → Int → Int → Int → Int → Option (Int × Int × Int × Int × Int × Int × Int × Bool)
  | 0, _, _, _, _, _, _, _, _ => none
  | k + 1, x4, x434000, x434001, x434002, x434003, x434004, x434005, x434006 => (bulletinref22_year.f x434000).bind fun t434 => (if x4 ≥ t434 then ((bulletinref22_year.f x434000).bind fun t435 => (bulletinref22_Of.l0 k (wrap64 (x4 - t435)) (wrap64 (x434000 + 1)) x434001 x434002 x434003 x434004 x434005 x434006)) else (bulletinref22_Of.l1 k x4 x434000 x434001 x434002 x434003 x434004 x434005 x434006))
def bulletinref22_Of.l1 : Nat → Int → Int → Int → Int → Int → Int → Int → Int → Option (Int × Int × Int × Int × Int × Int × Int × Bool)
  | 0, _, _, _, _, _, _, _, _ => none
  | k + 1, x4, x434000, x434001, x434002, x434003, x434004, x434005, x434006 => (bulletinref22_Long.f k x434000 x434001).bind fun t436 => (if x4 ≥ t436 then ((bulletinref22_Long.f k x434000 x434001).bind fun t437 => (bulletinref22_Of.l1 k (wrap64 (x4 - t437)) x434000 (wrap64 (x434001 + 1)) x434002 x434003 x434004 x434005 x434006)) else (some (x434000, x434001, wrap64 (x4 + 1), x434003, x434004, x434005, x434006, true)))
end
def bulletinref22_Of.f (k : Nat) (a0 : Int) : Option (Int × Int × Int × Int × Int × Int × Int × Bool) := (bulletinref22_Moment.f a0).bind fun t432 => (if t432 = true then (bulletinref22_Of.l0 k (wrap64 (Int.tdiv a0 86400)) 1970 1 0 (wrap64 (Int.tdiv (Int.tmod a0 86400) 3600)) (wrap64 (Int.tdiv (Int.tmod a0 3600) 60)) (Int.tmod a0 60) (Int.tmod (wrap64 ((wrap64 (Int.tdiv a0 86400)) + 4)) 7)) else (some (0, 0, 0, 0, 0, 0, 0, false)))
theorem bulletinref22_Of.mono_l : ∀ k, (∀ y0 y1 y2 y3 y4 y5 y6 y7, LeO (bulletinref22_Of.l0 k y0 y1 y2 y3 y4 y5 y6 y7) (bulletinref22_Of.l0 (k + 1) y0 y1 y2 y3 y4 y5 y6 y7)) ∧ (∀ y0 y1 y2 y3 y4 y5 y6 y7, LeO (bulletinref22_Of.l1 k y0 y1 y2 y3 y4 y5 y6 y7) (bulletinref22_Of.l1 (k + 1) y0 y1 y2 y3 y4 y5 y6 y7))
  | 0 => ⟨fun _ _ _ _ _ _ _ _ r h => by simp [bulletinref22_Of.l0] at h, fun _ _ _ _ _ _ _ _ r h => by simp [bulletinref22_Of.l1] at h⟩
  | k + 1 => by
    obtain ⟨ih0, ih1⟩ := bulletinref22_Of.mono_l k
    refine ⟨?_, ?_⟩
    · intro y0 y1 y2 y3 y4 y5 y6 y7
      unfold bulletinref22_Of.l0
      repeat' first | (with_reducible first | exact ih0 _ _ _ _ _ _ _ _ | exact ih1 _ _ _ _ _ _ _ _ | exact bulletinref22_Long.mono _ _ _ | exact LeO.refl _ | exact LeO.none _ | refine LeO.ite ?_ ?_ | refine LeO.bind ?_ (fun _ => ?_)) | exact ih0 _ _ _ _ _ _ _ _ | exact ih1 _ _ _ _ _ _ _ _ | exact bulletinref22_Long.mono _ _ _ | exact LeO.none _ | refine LeO.ite ?_ ?_ | refine LeO.bind ?_ (fun _ => ?_)
    · intro y0 y1 y2 y3 y4 y5 y6 y7
      unfold bulletinref22_Of.l1
      repeat' first | (with_reducible first | exact ih0 _ _ _ _ _ _ _ _ | exact ih1 _ _ _ _ _ _ _ _ | exact bulletinref22_Long.mono _ _ _ | exact LeO.refl _ | exact LeO.none _ | refine LeO.ite ?_ ?_ | refine LeO.bind ?_ (fun _ => ?_)) | exact ih0 _ _ _ _ _ _ _ _ | exact ih1 _ _ _ _ _ _ _ _ | exact bulletinref22_Long.mono _ _ _ | exact LeO.none _ | refine LeO.ite ?_ ?_ | refine LeO.bind ?_ (fun _ => ?_)
theorem bulletinref22_Of.mono : ∀ a0 k, LeO (bulletinref22_Of.f k a0) (bulletinref22_Of.f (k + 1) a0) := by
  intro a0 k
  obtain ⟨ih0, ih1⟩ := bulletinref22_Of.mono_l k
  unfold bulletinref22_Of.f
  repeat' first | (with_reducible first | exact ih0 _ _ _ _ _ _ _ _ | exact ih1 _ _ _ _ _ _ _ _ | exact bulletinref22_Long.mono _ _ _ | exact LeO.refl _ | exact LeO.none _ | refine LeO.ite ?_ ?_ | refine LeO.bind ?_ (fun _ => ?_)) | exact ih0 _ _ _ _ _ _ _ _ | exact ih1 _ _ _ _ _ _ _ _ | exact bulletinref22_Long.mono _ _ _ | exact LeO.none _ | refine LeO.ite ?_ ?_ | refine LeO.bind ?_ (fun _ => ?_)
set_option maxHeartbeats 8000000 in
set_option maxRecDepth 100000 in
theorem bulletinref22_Of.calls (k : Nat) (a0 : Int) (r1 : Int) (r2 : Int) (r3 : Int) (r4 : Int) (r5 : Int) (r6 : Int) (r7 : Int) (r8 : Bool) (w : World) (h : bulletinref22_Of.f k a0 = some (r1, r2, r3, r4, r5, r6, r7, r8)) :
    Calls Tryz.prog 56 #[.int .i64 a0] w fun e w' => e = .returned (.tuple #[.agg #[.int .i64 r1, .int .i64 r2, .int .i64 r3, .int .i64 r4, .int .i64 r5, .int .i64 r6, .int .i64 r7], .bool r8]) ∧ Below w.heap.size w w' := by
 have hu73 := Tryz.underlying73
 have HB := Aside0.mk (Below.refl w.heap.size w)
 unfold bulletinref22_Of.f at h
 have H := h
 clear h
 replace H := Option.bind_eq_some_iff.mp H
 obtain ⟨t432, A20, H⟩ := H
 try dsimp only at H
 have A2 := Aside0.mk A20
 clear A20
 by_cases c3 : t432 = true
 ·subst c3
  rw [if_pos rfl] at H
  have H' := Aside0.mk H
  clear H
  go_enter Tryz.func56, Tryz.ntmps56
  go_wp2_with (first | ((with_reducible refine gate_dst (N := 2) rfl ?_); refine box_event ?hg (N := 2) ?hd (cs := #[.int .i64 0, .int .i64 0, .int .i64 0, .int .i64 0, .int .i64 0, .int .i64 0, .int .i64 0]) (t := 73) ?hr ?_; (case hd => rfl); (case hg => rfl); (case hr => first | (go_simp; done) | (go_simp; rfl)); intro gb431 hg w4 hbox hb; have BK431 := Aside0.mk (hbox); have GW431 : Aside0 (w.heap.size ≤ gb431) := gw_ hg; have GE431 : Aside0 (w.heap.size ≤ gb431) := gw_ hg; replace HB := Aside0.mk (below_step blw hb); clear hb hbox hg) | ((with_reducible refine gc 39 rfl ?_); refine cl_ (some 8) Tryz.func39 (bulletinref22_Moment.calls a0 true _ A2.out) ?_; rintro w' ⟨nd, rfl⟩; (try (rw [drewN_self w4]; generalize hq_ : World.drewN w4 _ = w4; have n0_ : Aside0 (w4.heap[gb431]? = some (.cells #[.int .i64 0, .int .i64 0, .int .i64 0, .int .i64 0, .int .i64 0, .int .i64 0, .int .i64 0] 73 (0, 0))) := ⟨by rw [← hq_]; exact (bkw BK431)⟩; have n1_ : Aside0 (Below w.heap.size w w4) := ⟨by rw [← hq_]; exact blw⟩; clear BK431 HB hq_; have BK431 := n0_; have HB := n1_; clear n0_ n1_))) | ((with_reducible refine gate_dst (N := 6) rfl ?_); refine box_event ?hg (N := 6) ?hd (cs := #[.int .i64 0, .int .i64 0, .int .i64 0, .int .i64 0, .int .i64 0, .int .i64 0, .int .i64 0]) (t := 73) ?hr ?_; (case hd => rfl); (case hg => rfl); (case hr => first | (go_simp; done) | (go_simp; rfl)); intro gb433 hg w5 hbox hb; have BK433 := Aside0.mk (hbox); have GW433 : Aside0 (w.heap.size ≤ gb433) := gw_ hg; have GE433 : Aside0 (w.heap.size ≤ gb433) := gw_ hg; replace HB := Aside0.mk (below_step blw hb); have NB431_433 := Aside0.mk ((by rw [hg]; exact Nat.ne_of_lt (blk_lt (g := gb431) (o := .cells #[.int .i64 0, .int .i64 0, .int .i64 0, .int .i64 0, .int .i64 0, .int .i64 0, .int .i64 0] 73 (0, 0)) (bkw BK431)) : gb431 ≠ gb433)); have NB433_431 := Aside0.mk ((by rw [hg]; exact Nat.ne_of_gt (blk_lt (g := gb431) (o := .cells #[.int .i64 0, .int .i64 0, .int .i64 0, .int .i64 0, .int .i64 0, .int .i64 0, .int .i64 0] 73 (0, 0)) (bkw BK431)) : gb433 ≠ gb431)); replace BK431 := Aside0.mk (blk_below (g := gb431) (o := .cells #[.int .i64 0, .int .i64 0, .int .i64 0, .int .i64 0, .int .i64 0, .int .i64 0, .int .i64 0] 73 (0, 0)) (bkw BK431) hb); clear hb hbox hg; have hnb6 := NB433_431.out; have hnc6 := NB431_433.out; have hcz7_0 : w5.cell? ⟨gb433, 0, none⟩ = some (.int .i64 0) := bk_ BK433; have hcz7_1 : w5.cell? ⟨gb433, 1, none⟩ = some (.int .i64 0) := bk_ BK433; have hcz7_2 : w5.cell? ⟨gb433, 2, none⟩ = some (.int .i64 0) := bk_ BK433; have hcz7_3 : w5.cell? ⟨gb433, 3, none⟩ = some (.int .i64 0) := bk_ BK433; have hcz7_4 : w5.cell? ⟨gb433, 4, none⟩ = some (.int .i64 0) := bk_ BK433; have hcz7_5 : w5.cell? ⟨gb433, 5, none⟩ = some (.int .i64 0) := bk_ BK433; have hcz7_6 : w5.cell? ⟨gb433, 6, none⟩ = some (.int .i64 0) := bk_ BK433; have hfz7_0 := blk_frozen BK433.out 0; have hfz7_1 := blk_frozen BK433.out 1; have hfz7_2 := blk_frozen BK433.out 2; have hfz7_3 := blk_frozen BK433.out 3; have hfz7_4 := blk_frozen BK433.out 4; have hfz7_5 := blk_frozen BK433.out 5; have hfz7_6 := blk_frozen BK433.out 6))
  go_loopg [4] k (fun kq v4 w' => ∃ (x4_1 : Int) (x434000_1 : Int), v4 = .int .i64 x4_1 ∧ Aside0 (bulletinref22_Of.l0 kq x4_1 x434000_1 1 0 (wrap64 (Int.tdiv (Int.tmod a0 86400) 3600)) (wrap64 (Int.tdiv (Int.tmod a0 3600) 60)) (Int.tmod a0 60) (Int.tmod (wrap64 ((wrap64 (Int.tdiv a0 86400)) + 4)) 7) = some (r1, r2, r3, r4, r5, r6, r7, r8)) ∧ Aside0 (kq ≤ k) ∧ Aside0 (w'.heap[gb431]? = some (.cells #[.int .i64 0, .int .i64 0, .int .i64 0, .int .i64 0, .int .i64 0, .int .i64 0, .int .i64 0] 73 (0, 0))) ∧ Aside0 (w'.heap[gb433]? = some (.cells #[.int .i64 x434000_1, .int .i64 1, .int .i64 0, .int .i64 (wrap64 (Int.tdiv (Int.tmod a0 86400) 3600)), .int .i64 (wrap64 (Int.tdiv (Int.tmod a0 3600) 60)), .int .i64 (Int.tmod a0 60), .int .i64 (Int.tmod (wrap64 ((wrap64 (Int.tdiv a0 86400)) + 4)) 7)] 73 (0, 0))) ∧ Aside0 (Below w.heap.size w w'))
  case atStart => exact ⟨(wrap64 (Int.tdiv a0 86400)), (1970), eqs, H', ⟨Nat.le_refl _⟩, ⟨by (with_reducible repeat (first | refine blk_drewN ?_ _ | refine blk_drew ?_ | refine blk_alloc ?_ _)); refine blk_far ?_ NB431_433.out _; (with_reducible repeat (first | refine blk_drewN ?_ _ | refine blk_drew ?_ | refine blk_alloc ?_ _)); refine blk_far ?_ NB431_433.out _; (with_reducible repeat (first | refine blk_drewN ?_ _ | refine blk_drew ?_ | refine blk_alloc ?_ _)); refine blk_far ?_ NB431_433.out _; (with_reducible repeat (first | refine blk_drewN ?_ _ | refine blk_drew ?_ | refine blk_alloc ?_ _)); refine blk_far ?_ NB431_433.out _; (with_reducible repeat (first | refine blk_drewN ?_ _ | refine blk_drew ?_ | refine blk_alloc ?_ _)); refine blk_far ?_ NB431_433.out _; (with_reducible repeat (first | refine blk_drewN ?_ _ | refine blk_drew ?_ | refine blk_alloc ?_ _)); refine blk_far ?_ NB431_433.out _; (with_reducible repeat (first | refine blk_drewN ?_ _ | refine blk_drew ?_ | refine blk_alloc ?_ _)); refine blk_far ?_ NB431_433.out _; (with_reducible repeat (first | refine blk_drewN ?_ _ | refine blk_drew ?_ | refine blk_alloc ?_ _)); exact BK431.out⟩, ⟨by (with_reducible repeat (first | refine blk_drewN ?_ _ | refine blk_drew ?_ | refine blk_alloc ?_ _)); refine blk_put (cs := #[.int .i64 1970, .int .i64 1, .int .i64 0, .int .i64 (wrap64 (Int.tdiv (Int.tmod a0 86400) 3600)), .int .i64 (wrap64 (Int.tdiv (Int.tmod a0 3600) 60)), .int .i64 (Int.tmod a0 60), .int .i64 0]) ?_ 6 _ rfl; (with_reducible repeat (first | refine blk_drewN ?_ _ | refine blk_drew ?_ | refine blk_alloc ?_ _)); refine blk_put (cs := #[.int .i64 1970, .int .i64 1, .int .i64 0, .int .i64 (wrap64 (Int.tdiv (Int.tmod a0 86400) 3600)), .int .i64 (wrap64 (Int.tdiv (Int.tmod a0 3600) 60)), .int .i64 0, .int .i64 0]) ?_ 5 _ rfl; (with_reducible repeat (first | refine blk_drewN ?_ _ | refine blk_drew ?_ | refine blk_alloc ?_ _)); refine blk_put (cs := #[.int .i64 1970, .int .i64 1, .int .i64 0, .int .i64 (wrap64 (Int.tdiv (Int.tmod a0 86400) 3600)), .int .i64 0, .int .i64 0, .int .i64 0]) ?_ 4 _ rfl; (with_reducible repeat (first | refine blk_drewN ?_ _ | refine blk_drew ?_ | refine blk_alloc ?_ _)); refine blk_put (cs := #[.int .i64 1970, .int .i64 1, .int .i64 0, .int .i64 0, .int .i64 0, .int .i64 0, .int .i64 0]) ?_ 3 _ rfl; (with_reducible repeat (first | refine blk_drewN ?_ _ | refine blk_drew ?_ | refine blk_alloc ?_ _)); refine blk_put (cs := #[.int .i64 1970, .int .i64 1, .int .i64 0, .int .i64 0, .int .i64 0, .int .i64 0, .int .i64 0]) ?_ 2 _ rfl; (with_reducible repeat (first | refine blk_drewN ?_ _ | refine blk_drew ?_ | refine blk_alloc ?_ _)); refine blk_put (cs := #[.int .i64 1970, .int .i64 0, .int .i64 0, .int .i64 0, .int .i64 0, .int .i64 0, .int .i64 0]) ?_ 1 _ rfl; (with_reducible repeat (first | refine blk_drewN ?_ _ | refine blk_drew ?_ | refine blk_alloc ?_ _)); refine blk_put (cs := #[.int .i64 0, .int .i64 0, .int .i64 0, .int .i64 0, .int .i64 0, .int .i64 0, .int .i64 0]) ?_ 0 _ rfl; (with_reducible repeat (first | refine blk_drewN ?_ _ | refine blk_drew ?_ | refine blk_alloc ?_ _)); exact BK433.out⟩, ⟨blw⟩⟩
  case round =>
   clear H'
   try clear p2
   try clear c3
   try clear c5
   try clear c6
   try clear p6
   try clear hcz7_0 hcz7_1 hcz7_2 hcz7_3 hcz7_4 hcz7_5 hcz7_6
   try clear hfz7_0 hfz7_1 hfz7_2 hfz7_3 hfz7_4 hfz7_5 hfz7_6
   obtain ⟨x4_1, x434000_1, rfl, HA, HK1, BK431, BK433, HB⟩ := hrel
   cases gk with
   | zero => exact absurd HA.out (by simp [bulletinref22_Of.l0])
   | succ k1 =>
    have H := HA.out
    clear HA
    simp only [bulletinref22_Of.l0] at H
    replace H := Option.bind_eq_some_iff.mp H
    obtain ⟨t434, A80, H⟩ := H
    try dsimp only at H
    have A8 := Aside0.mk A80
    clear A80
    by_cases c9 : x4_1 ≥ t434
    ·rw [if_pos c9] at H
     have c9b0 : decide (t434 ≤ x4_1) = true := decide_eq_true c9
     clear c9
     replace H := Option.bind_eq_some_iff.mp H
     obtain ⟨t435, A100, H⟩ := H
     try dsimp only at H
     have A10 := Aside0.mk A100
     clear A100
     have H' := Aside0.mk H
     clear H
     have hnb11 := NB433_431.out
     have hnc11 := NB431_433.out
     have hcz12_0 : wr.cell? ⟨gb433, 0, none⟩ = some (.int .i64 x434000_1) := bk_ BK433
     have hcz12_1 : wr.cell? ⟨gb433, 1, none⟩ = some (.int .i64 1) := bk_ BK433
     have hcz12_2 : wr.cell? ⟨gb433, 2, none⟩ = some (.int .i64 0) := bk_ BK433
     have hcz12_3 : wr.cell? ⟨gb433, 3, none⟩ = some (.int .i64 (wrap64 (Int.tdiv (Int.tmod a0 86400) 3600))) := bk_ BK433
     have hcz12_4 : wr.cell? ⟨gb433, 4, none⟩ = some (.int .i64 (wrap64 (Int.tdiv (Int.tmod a0 3600) 60))) := bk_ BK433
     have hcz12_5 : wr.cell? ⟨gb433, 5, none⟩ = some (.int .i64 (Int.tmod a0 60)) := bk_ BK433
     have hcz12_6 : wr.cell? ⟨gb433, 6, none⟩ = some (.int .i64 (Int.tmod (wrap64 ((wrap64 (Int.tdiv a0 86400)) + 4)) 7)) := bk_ BK433
     have hfz12_0 := blk_frozen BK433.out 0
     have hfz12_1 := blk_frozen BK433.out 1
     have hfz12_2 := blk_frozen BK433.out 2
     have hfz12_3 := blk_frozen BK433.out 3
     have hfz12_4 := blk_frozen BK433.out 4
     have hfz12_5 := blk_frozen BK433.out 5
     have hfz12_6 := blk_frozen BK433.out 6
     go_wp2_with (first | ((with_reducible refine gc 90 rfl ?_); refine cl_ (some 29) Tryz.func90 (bulletinref22_year.calls x434000_1 t434 _ A8.out) ?_; rintro w' ⟨nd, rfl⟩; (try (rw [drewN_self wr]; generalize hq_ : World.drewN wr _ = wr; have n0_ : Aside0 (wr.heap[gb431]? = some (.cells #[.int .i64 0, .int .i64 0, .int .i64 0, .int .i64 0, .int .i64 0, .int .i64 0, .int .i64 0] 73 (0, 0))) := ⟨by rw [← hq_]; exact (bkw BK431)⟩; have n1_ : Aside0 (wr.heap[gb433]? = some (.cells #[.int .i64 x434000_1, .int .i64 1, .int .i64 0, .int .i64 (wrap64 (Int.tdiv (Int.tmod a0 86400) 3600)), .int .i64 (wrap64 (Int.tdiv (Int.tmod a0 3600) 60)), .int .i64 (Int.tmod a0 60), .int .i64 (Int.tmod (wrap64 ((wrap64 (Int.tdiv a0 86400)) + 4)) 7)] 73 (0, 0))) := ⟨by rw [← hq_]; exact (bkw BK433)⟩; have n2_ : Aside0 (Below w.heap.size w wr) := ⟨by rw [← hq_]; exact blw⟩; clear BK431 BK433 HB hq_; have BK431 := n0_; have BK433 := n1_; have HB := n2_; clear n0_ n1_ n2_)); have hcz13_0 : wr.cell? ⟨gb433, 0, none⟩ = some (.int .i64 x434000_1) := bk_ BK433; have hcz13_1 : wr.cell? ⟨gb433, 1, none⟩ = some (.int .i64 1) := bk_ BK433; have hcz13_2 : wr.cell? ⟨gb433, 2, none⟩ = some (.int .i64 0) := bk_ BK433; have hcz13_3 : wr.cell? ⟨gb433, 3, none⟩ = some (.int .i64 (wrap64 (Int.tdiv (Int.tmod a0 86400) 3600))) := bk_ BK433; have hcz13_4 : wr.cell? ⟨gb433, 4, none⟩ = some (.int .i64 (wrap64 (Int.tdiv (Int.tmod a0 3600) 60))) := bk_ BK433; have hcz13_5 : wr.cell? ⟨gb433, 5, none⟩ = some (.int .i64 (Int.tmod a0 60)) := bk_ BK433; have hcz13_6 : wr.cell? ⟨gb433, 6, none⟩ = some (.int .i64 (Int.tmod (wrap64 ((wrap64 (Int.tdiv a0 86400)) + 4)) 7)) := bk_ BK433; have hfz13_0 := blk_frozen BK433.out 0; have hfz13_1 := blk_frozen BK433.out 1; have hfz13_2 := blk_frozen BK433.out 2; have hfz13_3 := blk_frozen BK433.out 3; have hfz13_4 := blk_frozen BK433.out 4; have hfz13_5 := blk_frozen BK433.out 5; have hfz13_6 := blk_frozen BK433.out 6) | ((with_reducible refine gc 90 rfl ?_); refine cl_ (some 34) Tryz.func90 (bulletinref22_year.calls x434000_1 t435 _ A10.out) ?_; rintro w' ⟨nd, rfl⟩; (try (rw [drewN_self wr]; generalize hq_ : World.drewN wr _ = wr; have n0_ : Aside0 (wr.heap[gb431]? = some (.cells #[.int .i64 0, .int .i64 0, .int .i64 0, .int .i64 0, .int .i64 0, .int .i64 0, .int .i64 0] 73 (0, 0))) := ⟨by rw [← hq_]; exact (bkw BK431)⟩; have n1_ : Aside0 (wr.heap[gb433]? = some (.cells #[.int .i64 x434000_1, .int .i64 1, .int .i64 0, .int .i64 (wrap64 (Int.tdiv (Int.tmod a0 86400) 3600)), .int .i64 (wrap64 (Int.tdiv (Int.tmod a0 3600) 60)), .int .i64 (Int.tmod a0 60), .int .i64 (Int.tmod (wrap64 ((wrap64 (Int.tdiv a0 86400)) + 4)) 7)] 73 (0, 0))) := ⟨by rw [← hq_]; exact (bkw BK433)⟩; have n2_ : Aside0 (Below w.heap.size w wr) := ⟨by rw [← hq_]; exact blw⟩; clear BK431 BK433 HB hq_; have BK431 := n0_; have BK433 := n1_; have HB := n2_; clear n0_ n1_ n2_)); have hcz14_0 : wr.cell? ⟨gb433, 0, none⟩ = some (.int .i64 x434000_1) := bk_ BK433; have hcz14_1 : wr.cell? ⟨gb433, 1, none⟩ = some (.int .i64 1) := bk_ BK433; have hcz14_2 : wr.cell? ⟨gb433, 2, none⟩ = some (.int .i64 0) := bk_ BK433; have hcz14_3 : wr.cell? ⟨gb433, 3, none⟩ = some (.int .i64 (wrap64 (Int.tdiv (Int.tmod a0 86400) 3600))) := bk_ BK433; have hcz14_4 : wr.cell? ⟨gb433, 4, none⟩ = some (.int .i64 (wrap64 (Int.tdiv (Int.tmod a0 3600) 60))) := bk_ BK433; have hcz14_5 : wr.cell? ⟨gb433, 5, none⟩ = some (.int .i64 (Int.tmod a0 60)) := bk_ BK433; have hcz14_6 : wr.cell? ⟨gb433, 6, none⟩ = some (.int .i64 (Int.tmod (wrap64 ((wrap64 (Int.tdiv a0 86400)) + 4)) 7)) := bk_ BK433; have hfz14_0 := blk_frozen BK433.out 0; have hfz14_1 := blk_frozen BK433.out 1; have hfz14_2 := blk_frozen BK433.out 2; have hfz14_3 := blk_frozen BK433.out 3; have hfz14_4 := blk_frozen BK433.out 4; have hfz14_5 := blk_frozen BK433.out 5; have hfz14_6 := blk_frozen BK433.out 6))
     go_roundg k1
     case measure => have := HK1.out; omega
     case rel => exact ⟨(wrap64 (x4_1 - t435)), (wrap64 (x434000_1 + 1)), eqs, H', ⟨by have := HK1.out; omega⟩, ⟨by (with_reducible repeat (first | refine blk_drewN ?_ _ | refine blk_drew ?_ | refine blk_alloc ?_ _)); refine blk_far ?_ NB431_433.out _; (with_reducible repeat (first | refine blk_drewN ?_ _ | refine blk_drew ?_ | refine blk_alloc ?_ _)); exact BK431.out⟩, ⟨by (with_reducible repeat (first | refine blk_drewN ?_ _ | refine blk_drew ?_ | refine blk_alloc ?_ _)); refine blk_put (cs := #[.int .i64 x434000_1, .int .i64 1, .int .i64 0, .int .i64 (wrap64 (Int.tdiv (Int.tmod a0 86400) 3600)), .int .i64 (wrap64 (Int.tdiv (Int.tmod a0 3600) 60)), .int .i64 (Int.tmod a0 60), .int .i64 (Int.tmod (wrap64 ((wrap64 (Int.tdiv a0 86400)) + 4)) 7)]) ?_ 0 _ rfl; (with_reducible repeat (first | refine blk_drewN ?_ _ | refine blk_drew ?_ | refine blk_alloc ?_ _)); exact BK433.out⟩, ⟨blw⟩⟩
    ·rw [if_neg c9] at H
     have c9b0 : decide (t434 ≤ x4_1) = false := decide_eq_false c9
     clear c9
     have H' := Aside0.mk H
     clear H
     have hnb15 := NB433_431.out
     have hnc15 := NB431_433.out
     have hcz16_0 : wr.cell? ⟨gb433, 0, none⟩ = some (.int .i64 x434000_1) := bk_ BK433
     have hcz16_1 : wr.cell? ⟨gb433, 1, none⟩ = some (.int .i64 1) := bk_ BK433
     have hcz16_2 : wr.cell? ⟨gb433, 2, none⟩ = some (.int .i64 0) := bk_ BK433
     have hcz16_3 : wr.cell? ⟨gb433, 3, none⟩ = some (.int .i64 (wrap64 (Int.tdiv (Int.tmod a0 86400) 3600))) := bk_ BK433
     have hcz16_4 : wr.cell? ⟨gb433, 4, none⟩ = some (.int .i64 (wrap64 (Int.tdiv (Int.tmod a0 3600) 60))) := bk_ BK433
     have hcz16_5 : wr.cell? ⟨gb433, 5, none⟩ = some (.int .i64 (Int.tmod a0 60)) := bk_ BK433
     have hcz16_6 : wr.cell? ⟨gb433, 6, none⟩ = some (.int .i64 (Int.tmod (wrap64 ((wrap64 (Int.tdiv a0 86400)) + 4)) 7)) := bk_ BK433
     have hfz16_0 := blk_frozen BK433.out 0
     have hfz16_1 := blk_frozen BK433.out 1
     have hfz16_2 := blk_frozen BK433.out 2
     have hfz16_3 := blk_frozen BK433.out 3
     have hfz16_4 := blk_frozen BK433.out 4
     have hfz16_5 := blk_frozen BK433.out 5
     have hfz16_6 := blk_frozen BK433.out 6
     go_wp2_with (first | ((with_reducible refine gc 90 rfl ?_); refine cl_ (some 29) Tryz.func90 (bulletinref22_year.calls x434000_1 t434 _ A8.out) ?_; rintro w' ⟨nd, rfl⟩))
     go_loopg [4] k1 (fun kq v4 w' => ∃ (x4_2 : Int) (x434001_2 : Int), v4 = .int .i64 x4_2 ∧ Aside0 (bulletinref22_Of.l1 kq x4_2 x434000_1 x434001_2 0 (wrap64 (Int.tdiv (Int.tmod a0 86400) 3600)) (wrap64 (Int.tdiv (Int.tmod a0 3600) 60)) (Int.tmod a0 60) (Int.tmod (wrap64 ((wrap64 (Int.tdiv a0 86400)) + 4)) 7) = some (r1, r2, r3, r4, r5, r6, r7, r8)) ∧ Aside0 (kq ≤ k1) ∧ Aside0 (w'.heap[gb431]? = some (.cells #[.int .i64 0, .int .i64 0, .int .i64 0, .int .i64 0, .int .i64 0, .int .i64 0, .int .i64 0] 73 (0, 0))) ∧ Aside0 (w'.heap[gb433]? = some (.cells #[.int .i64 x434000_1, .int .i64 x434001_2, .int .i64 0, .int .i64 (wrap64 (Int.tdiv (Int.tmod a0 86400) 3600)), .int .i64 (wrap64 (Int.tdiv (Int.tmod a0 3600) 60)), .int .i64 (Int.tmod a0 60), .int .i64 (Int.tmod (wrap64 ((wrap64 (Int.tdiv a0 86400)) + 4)) 7)] 73 (0, 0))) ∧ Aside0 (Below w.heap.size w w'))
     case atStart => exact ⟨(x4_1), (1), eqs, H', ⟨Nat.le_refl _⟩, ⟨bkw BK431⟩, ⟨bkw BK433⟩, ⟨blw⟩⟩
     case round =>
      clear H'
      try clear c1
      try clear p2
      try clear c3
      try clear c5
      try clear c6
      try clear p6
      try clear c9
      try clear c9b0
      try clear c11
      try clear c15
      try clear hcz12_0 hcz12_1 hcz12_2 hcz12_3 hcz12_4 hcz12_5 hcz12_6
      try clear hcz13_0 hcz13_1 hcz13_2 hcz13_3 hcz13_4 hcz13_5 hcz13_6
      try clear hcz14_0 hcz14_1 hcz14_2 hcz14_3 hcz14_4 hcz14_5 hcz14_6
      try clear hcz16_0 hcz16_1 hcz16_2 hcz16_3 hcz16_4 hcz16_5 hcz16_6
      try clear hcz7_0 hcz7_1 hcz7_2 hcz7_3 hcz7_4 hcz7_5 hcz7_6
      try clear hfz12_0 hfz12_1 hfz12_2 hfz12_3 hfz12_4 hfz12_5 hfz12_6
      try clear hfz13_0 hfz13_1 hfz13_2 hfz13_3 hfz13_4 hfz13_5 hfz13_6
      try clear hfz14_0 hfz14_1 hfz14_2 hfz14_3 hfz14_4 hfz14_5 hfz14_6
      try clear hfz16_0 hfz16_1 hfz16_2 hfz16_3 hfz16_4 hfz16_5 hfz16_6
      try clear hfz7_0 hfz7_1 hfz7_2 hfz7_3 hfz7_4 hfz7_5 hfz7_6
      try clear p2
      try clear p6
      obtain ⟨x4_2, x434001_2, rfl, HA, HK2, BK431, BK433, HB⟩ := hrel
      cases gk with
      | zero => exact absurd HA.out (by simp [bulletinref22_Of.l1])
      | succ k2 =>
       have H := HA.out
       clear HA
       simp only [bulletinref22_Of.l1] at H
       replace H := Option.bind_eq_some_iff.mp H
       obtain ⟨t436, A170, H⟩ := H
       try dsimp only at H
       have A17 := Aside0.mk A170
       clear A170
       by_cases c18 : x4_2 ≥ t436
       ·rw [if_pos c18] at H
        have c18b0 : decide (t436 ≤ x4_2) = true := decide_eq_true c18
        clear c18
        replace H := Option.bind_eq_some_iff.mp H
        obtain ⟨t437, A190, H⟩ := H
        try dsimp only at H
        have A19 := Aside0.mk A190
        clear A190
        have H' := Aside0.mk H
        clear H
        have hnb20 := NB433_431.out
        have hnc20 := NB431_433.out
        have hcz21_0 : wr.cell? ⟨gb433, 0, none⟩ = some (.int .i64 x434000_1) := bk_ BK433
        have hcz21_1 : wr.cell? ⟨gb433, 1, none⟩ = some (.int .i64 x434001_2) := bk_ BK433
        have hcz21_2 : wr.cell? ⟨gb433, 2, none⟩ = some (.int .i64 0) := bk_ BK433
        have hcz21_3 : wr.cell? ⟨gb433, 3, none⟩ = some (.int .i64 (wrap64 (Int.tdiv (Int.tmod a0 86400) 3600))) := bk_ BK433
        have hcz21_4 : wr.cell? ⟨gb433, 4, none⟩ = some (.int .i64 (wrap64 (Int.tdiv (Int.tmod a0 3600) 60))) := bk_ BK433
        have hcz21_5 : wr.cell? ⟨gb433, 5, none⟩ = some (.int .i64 (Int.tmod a0 60)) := bk_ BK433
        have hcz21_6 : wr.cell? ⟨gb433, 6, none⟩ = some (.int .i64 (Int.tmod (wrap64 ((wrap64 (Int.tdiv a0 86400)) + 4)) 7)) := bk_ BK433
        have hfz21_0 := blk_frozen BK433.out 0
        have hfz21_1 := blk_frozen BK433.out 1
        have hfz21_2 := blk_frozen BK433.out 2
        have hfz21_3 := blk_frozen BK433.out 3
        have hfz21_4 := blk_frozen BK433.out 4
        have hfz21_5 := blk_frozen BK433.out 5
        have hfz21_6 := blk_frozen BK433.out 6
        go_wp2_with (first | ((with_reducible refine gc 91 rfl ?_); refine cl_ (some 45) Tryz.func91 (bulletinref22_Long.calls k2 x434000_1 x434001_2 t436 _ A17.out) ?_; rintro w' ⟨nd, rfl⟩; (try (rw [drewN_self wr]; generalize hq_ : World.drewN wr _ = wr; have n0_ : Aside0 (wr.heap[gb431]? = some (.cells #[.int .i64 0, .int .i64 0, .int .i64 0, .int .i64 0, .int .i64 0, .int .i64 0, .int .i64 0] 73 (0, 0))) := ⟨by rw [← hq_]; exact (bkw BK431)⟩; have n1_ : Aside0 (wr.heap[gb433]? = some (.cells #[.int .i64 x434000_1, .int .i64 x434001_2, .int .i64 0, .int .i64 (wrap64 (Int.tdiv (Int.tmod a0 86400) 3600)), .int .i64 (wrap64 (Int.tdiv (Int.tmod a0 3600) 60)), .int .i64 (Int.tmod a0 60), .int .i64 (Int.tmod (wrap64 ((wrap64 (Int.tdiv a0 86400)) + 4)) 7)] 73 (0, 0))) := ⟨by rw [← hq_]; exact (bkw BK433)⟩; have n2_ : Aside0 (Below w.heap.size w wr) := ⟨by rw [← hq_]; exact blw⟩; clear BK431 BK433 HB hq_; have BK431 := n0_; have BK433 := n1_; have HB := n2_; clear n0_ n1_ n2_)); have hcz22_0 : wr.cell? ⟨gb433, 0, none⟩ = some (.int .i64 x434000_1) := bk_ BK433; have hcz22_1 : wr.cell? ⟨gb433, 1, none⟩ = some (.int .i64 x434001_2) := bk_ BK433; have hcz22_2 : wr.cell? ⟨gb433, 2, none⟩ = some (.int .i64 0) := bk_ BK433; have hcz22_3 : wr.cell? ⟨gb433, 3, none⟩ = some (.int .i64 (wrap64 (Int.tdiv (Int.tmod a0 86400) 3600))) := bk_ BK433; have hcz22_4 : wr.cell? ⟨gb433, 4, none⟩ = some (.int .i64 (wrap64 (Int.tdiv (Int.tmod a0 3600) 60))) := bk_ BK433; have hcz22_5 : wr.cell? ⟨gb433, 5, none⟩ = some (.int .i64 (Int.tmod a0 60)) := bk_ BK433; have hcz22_6 : wr.cell? ⟨gb433, 6, none⟩ = some (.int .i64 (Int.tmod (wrap64 ((wrap64 (Int.tdiv a0 86400)) + 4)) 7)) := bk_ BK433; have hfz22_0 := blk_frozen BK433.out 0; have hfz22_1 := blk_frozen BK433.out 1; have hfz22_2 := blk_frozen BK433.out 2; have hfz22_3 := blk_frozen BK433.out 3; have hfz22_4 := blk_frozen BK433.out 4; have hfz22_5 := blk_frozen BK433.out 5; have hfz22_6 := blk_frozen BK433.out 6) | ((with_reducible refine gc 91 rfl ?_); refine cl_ (some 52) Tryz.func91 (bulletinref22_Long.calls k2 x434000_1 x434001_2 t437 _ A19.out) ?_; rintro w' ⟨nd, rfl⟩; (try (rw [drewN_self wr]; generalize hq_ : World.drewN wr _ = wr; have n0_ : Aside0 (wr.heap[gb431]? = some (.cells #[.int .i64 0, .int .i64 0, .int .i64 0, .int .i64 0, .int .i64 0, .int .i64 0, .int .i64 0] 73 (0, 0))) := ⟨by rw [← hq_]; exact (bkw BK431)⟩; have n1_ : Aside0 (wr.heap[gb433]? = some (.cells #[.int .i64 x434000_1, .int .i64 x434001_2, .int .i64 0, .int .i64 (wrap64 (Int.tdiv (Int.tmod a0 86400) 3600)), .int .i64 (wrap64 (Int.tdiv (Int.tmod a0 3600) 60)), .int .i64 (Int.tmod a0 60), .int .i64 (Int.tmod (wrap64 ((wrap64 (Int.tdiv a0 86400)) + 4)) 7)] 73 (0, 0))) := ⟨by rw [← hq_]; exact (bkw BK433)⟩; have n2_ : Aside0 (Below w.heap.size w wr) := ⟨by rw [← hq_]; exact blw⟩; clear BK431 BK433 HB hq_; have BK431 := n0_; have BK433 := n1_; have HB := n2_; clear n0_ n1_ n2_)); have hcz23_0 : wr.cell? ⟨gb433, 0, none⟩ = some (.int .i64 x434000_1) := bk_ BK433; have hcz23_1 : wr.cell? ⟨gb433, 1, none⟩ = some (.int .i64 x434001_2) := bk_ BK433; have hcz23_2 : wr.cell? ⟨gb433, 2, none⟩ = some (.int .i64 0) := bk_ BK433; have hcz23_3 : wr.cell? ⟨gb433, 3, none⟩ = some (.int .i64 (wrap64 (Int.tdiv (Int.tmod a0 86400) 3600))) := bk_ BK433; have hcz23_4 : wr.cell? ⟨gb433, 4, none⟩ = some (.int .i64 (wrap64 (Int.tdiv (Int.tmod a0 3600) 60))) := bk_ BK433; have hcz23_5 : wr.cell? ⟨gb433, 5, none⟩ = some (.int .i64 (Int.tmod a0 60)) := bk_ BK433; have hcz23_6 : wr.cell? ⟨gb433, 6, none⟩ = some (.int .i64 (Int.tmod (wrap64 ((wrap64 (Int.tdiv a0 86400)) + 4)) 7)) := bk_ BK433; have hfz23_0 := blk_frozen BK433.out 0; have hfz23_1 := blk_frozen BK433.out 1; have hfz23_2 := blk_frozen BK433.out 2; have hfz23_3 := blk_frozen BK433.out 3; have hfz23_4 := blk_frozen BK433.out 4; have hfz23_5 := blk_frozen BK433.out 5; have hfz23_6 := blk_frozen BK433.out 6))
        go_roundg k2
        case measure => have := HK1.out; have := HK2.out; omega
        case rel => exact ⟨(wrap64 (x4_2 - t437)), (wrap64 (x434001_2 + 1)), eqs, H', ⟨by have := HK1.out; have := HK2.out; omega⟩, ⟨by (with_reducible repeat (first | refine blk_drewN ?_ _ | refine blk_drew ?_ | refine blk_alloc ?_ _)); refine blk_far ?_ NB431_433.out _; (with_reducible repeat (first | refine blk_drewN ?_ _ | refine blk_drew ?_ | refine blk_alloc ?_ _)); exact BK431.out⟩, ⟨by (with_reducible repeat (first | refine blk_drewN ?_ _ | refine blk_drew ?_ | refine blk_alloc ?_ _)); refine blk_put (cs := #[.int .i64 x434000_1, .int .i64 x434001_2, .int .i64 0, .int .i64 (wrap64 (Int.tdiv (Int.tmod a0 86400) 3600)), .int .i64 (wrap64 (Int.tdiv (Int.tmod a0 3600) 60)), .int .i64 (Int.tmod a0 60), .int .i64 (Int.tmod (wrap64 ((wrap64 (Int.tdiv a0 86400)) + 4)) 7)]) ?_ 1 _ rfl; (with_reducible repeat (first | refine blk_drewN ?_ _ | refine blk_drew ?_ | refine blk_alloc ?_ _)); exact BK433.out⟩, ⟨blw⟩⟩
       ·rw [if_neg c18] at H
        have c18b0 : decide (t436 ≤ x4_2) = false := decide_eq_false c18
        clear c18
        simp only [Option.some.injEq, Prod.mk.injEq] at H
        obtain ⟨rfl, rfl, rfl, rfl, rfl, rfl, rfl, rfl⟩ := H
        have hnb24 := NB433_431.out
        have hnc24 := NB431_433.out
        have hcz25_0 : wr.cell? ⟨gb433, 0, none⟩ = some (.int .i64 x434000_1) := bk_ BK433
        have hcz25_1 : wr.cell? ⟨gb433, 1, none⟩ = some (.int .i64 x434001_2) := bk_ BK433
        have hcz25_2 : wr.cell? ⟨gb433, 2, none⟩ = some (.int .i64 0) := bk_ BK433
        have hcz25_3 : wr.cell? ⟨gb433, 3, none⟩ = some (.int .i64 (wrap64 (Int.tdiv (Int.tmod a0 86400) 3600))) := bk_ BK433
        have hcz25_4 : wr.cell? ⟨gb433, 4, none⟩ = some (.int .i64 (wrap64 (Int.tdiv (Int.tmod a0 3600) 60))) := bk_ BK433
        have hcz25_5 : wr.cell? ⟨gb433, 5, none⟩ = some (.int .i64 (Int.tmod a0 60)) := bk_ BK433
        have hcz25_6 : wr.cell? ⟨gb433, 6, none⟩ = some (.int .i64 (Int.tmod (wrap64 ((wrap64 (Int.tdiv a0 86400)) + 4)) 7)) := bk_ BK433
        have hfz25_0 := blk_frozen BK433.out 0
        have hfz25_1 := blk_frozen BK433.out 1
        have hfz25_2 := blk_frozen BK433.out 2
        have hfz25_3 := blk_frozen BK433.out 3
        have hfz25_4 := blk_frozen BK433.out 4
        have hfz25_5 := blk_frozen BK433.out 5
        have hfz25_6 := blk_frozen BK433.out 6
        go_wp2_with (first | ((with_reducible refine gc 91 rfl ?_); refine cl_ (some 45) Tryz.func91 (bulletinref22_Long.calls k2 x434000_1 x434001_2 t436 _ A17.out) ?_; rintro w' ⟨nd, rfl⟩; (try (rw [drewN_self wr]; generalize hq_ : World.drewN wr _ = wr; have n0_ : Aside0 (wr.heap[gb431]? = some (.cells #[.int .i64 0, .int .i64 0, .int .i64 0, .int .i64 0, .int .i64 0, .int .i64 0, .int .i64 0] 73 (0, 0))) := ⟨by rw [← hq_]; exact (bkw BK431)⟩; have n1_ : Aside0 (wr.heap[gb433]? = some (.cells #[.int .i64 x434000_1, .int .i64 x434001_2, .int .i64 0, .int .i64 (wrap64 (Int.tdiv (Int.tmod a0 86400) 3600)), .int .i64 (wrap64 (Int.tdiv (Int.tmod a0 3600) 60)), .int .i64 (Int.tmod a0 60), .int .i64 (Int.tmod (wrap64 ((wrap64 (Int.tdiv a0 86400)) + 4)) 7)] 73 (0, 0))) := ⟨by rw [← hq_]; exact (bkw BK433)⟩; have n2_ : Aside0 (Below w.heap.size w wr) := ⟨by rw [← hq_]; exact blw⟩; clear BK431 BK433 HB hq_; have BK431 := n0_; have BK433 := n1_; have HB := n2_; clear n0_ n1_ n2_)); have hcz26_0 : wr.cell? ⟨gb433, 0, none⟩ = some (.int .i64 x434000_1) := bk_ BK433; have hcz26_1 : wr.cell? ⟨gb433, 1, none⟩ = some (.int .i64 x434001_2) := bk_ BK433; have hcz26_2 : wr.cell? ⟨gb433, 2, none⟩ = some (.int .i64 0) := bk_ BK433; have hcz26_3 : wr.cell? ⟨gb433, 3, none⟩ = some (.int .i64 (wrap64 (Int.tdiv (Int.tmod a0 86400) 3600))) := bk_ BK433; have hcz26_4 : wr.cell? ⟨gb433, 4, none⟩ = some (.int .i64 (wrap64 (Int.tdiv (Int.tmod a0 3600) 60))) := bk_ BK433; have hcz26_5 : wr.cell? ⟨gb433, 5, none⟩ = some (.int .i64 (Int.tmod a0 60)) := bk_ BK433; have hcz26_6 : wr.cell? ⟨gb433, 6, none⟩ = some (.int .i64 (Int.tmod (wrap64 ((wrap64 (Int.tdiv a0 86400)) + 4)) 7)) := bk_ BK433; have hfz26_0 := blk_frozen BK433.out 0; have hfz26_1 := blk_frozen BK433.out 1; have hfz26_2 := blk_frozen BK433.out 2; have hfz26_3 := blk_frozen BK433.out 3; have hfz26_4 := blk_frozen BK433.out 4; have hfz26_5 := blk_frozen BK433.out 5; have hfz26_6 := blk_frozen BK433.out 6; have hcz27_0 : wr.cell? ⟨gb431, 0, none⟩ = some (.int .i64 0) := bk_ BK431; have hcz27_1 : wr.cell? ⟨gb431, 1, none⟩ = some (.int .i64 0) := bk_ BK431; have hcz27_2 : wr.cell? ⟨gb431, 2, none⟩ = some (.int .i64 0) := bk_ BK431; have hcz27_3 : wr.cell? ⟨gb431, 3, none⟩ = some (.int .i64 0) := bk_ BK431; have hcz27_4 : wr.cell? ⟨gb431, 4, none⟩ = some (.int .i64 0) := bk_ BK431; have hcz27_5 : wr.cell? ⟨gb431, 5, none⟩ = some (.int .i64 0) := bk_ BK431; have hcz27_6 : wr.cell? ⟨gb431, 6, none⟩ = some (.int .i64 0) := bk_ BK431; have hfz27_0 := blk_frozen BK431.out 0; have hfz27_1 := blk_frozen BK431.out 1; have hfz27_2 := blk_frozen BK431.out 2; have hfz27_3 := blk_frozen BK431.out 3; have hfz27_4 := blk_frozen BK431.out 4; have hfz27_5 := blk_frozen BK431.out 5; have hfz27_6 := blk_frozen BK431.out 6))
        refine bodyPost_ret (results_ct rfl _ _ gb431 73 #[.int .i64 x434000_1, .int .i64 x434001_2, .int .i64 (wrap64 (x4_2 + 1)), .int .i64 (wrap64 (Int.tdiv (Int.tmod a0 86400) 3600)), .int .i64 (wrap64 (Int.tdiv (Int.tmod a0 3600) 60)), .int .i64 (Int.tmod a0 60), .int .i64 (Int.tmod (wrap64 ((wrap64 (Int.tdiv a0 86400)) + 4)) 7)] (0, 0) _ rfl (by (with_reducible repeat (first | refine blk_drewN ?_ _ | refine blk_drew ?_ | refine blk_alloc ?_ _)); refine blk_put (cs := #[.int .i64 x434000_1, .int .i64 x434001_2, .int .i64 (wrap64 (x4_2 + 1)), .int .i64 (wrap64 (Int.tdiv (Int.tmod a0 86400) 3600)), .int .i64 (wrap64 (Int.tdiv (Int.tmod a0 3600) 60)), .int .i64 (Int.tmod a0 60), .int .i64 0]) ?_ 6 _ rfl; (with_reducible repeat (first | refine blk_drewN ?_ _ | refine blk_drew ?_ | refine blk_alloc ?_ _)); refine blk_put (cs := #[.int .i64 x434000_1, .int .i64 x434001_2, .int .i64 (wrap64 (x4_2 + 1)), .int .i64 (wrap64 (Int.tdiv (Int.tmod a0 86400) 3600)), .int .i64 (wrap64 (Int.tdiv (Int.tmod a0 3600) 60)), .int .i64 0, .int .i64 0]) ?_ 5 _ rfl; (with_reducible repeat (first | refine blk_drewN ?_ _ | refine blk_drew ?_ | refine blk_alloc ?_ _)); refine blk_put (cs := #[.int .i64 x434000_1, .int .i64 x434001_2, .int .i64 (wrap64 (x4_2 + 1)), .int .i64 (wrap64 (Int.tdiv (Int.tmod a0 86400) 3600)), .int .i64 0, .int .i64 0, .int .i64 0]) ?_ 4 _ rfl; (with_reducible repeat (first | refine blk_drewN ?_ _ | refine blk_drew ?_ | refine blk_alloc ?_ _)); refine blk_put (cs := #[.int .i64 x434000_1, .int .i64 x434001_2, .int .i64 (wrap64 (x4_2 + 1)), .int .i64 0, .int .i64 0, .int .i64 0, .int .i64 0]) ?_ 3 _ rfl; (with_reducible repeat (first | refine blk_drewN ?_ _ | refine blk_drew ?_ | refine blk_alloc ?_ _)); refine blk_put (cs := #[.int .i64 x434000_1, .int .i64 x434001_2, .int .i64 0, .int .i64 0, .int .i64 0, .int .i64 0, .int .i64 0]) ?_ 2 _ rfl; (with_reducible repeat (first | refine blk_drewN ?_ _ | refine blk_drew ?_ | refine blk_alloc ?_ _)); refine blk_put (cs := #[.int .i64 x434000_1, .int .i64 0, .int .i64 0, .int .i64 0, .int .i64 0, .int .i64 0, .int .i64 0]) ?_ 1 _ rfl; (with_reducible repeat (first | refine blk_drewN ?_ _ | refine blk_drew ?_ | refine blk_alloc ?_ _)); refine blk_put (cs := #[.int .i64 0, .int .i64 0, .int .i64 0, .int .i64 0, .int .i64 0, .int .i64 0, .int .i64 0]) ?_ 0 _ rfl; (with_reducible repeat (first | refine blk_drewN ?_ _ | refine blk_drew ?_ | refine blk_alloc ?_ _)); refine blk_far ?_ NB431_433.out _; (with_reducible repeat (first | refine blk_drewN ?_ _ | refine blk_drew ?_ | refine blk_alloc ?_ _)); exact BK431.out) Tryz.underlying73 rfl (by kernel_rfl)) rfl ?_
        exact ⟨by first | rfl | (simp [errW_none, errW_some] <;> rfl) | (simp [*, errW_none, errW_some] <;> rfl), blw⟩
 ·replace c3 := Bool.eq_false_iff.mpr c3
  subst c3
  rw [if_neg nft] at H
  simp only [Option.some.injEq, Prod.mk.injEq] at H
  obtain ⟨rfl, rfl, rfl, rfl, rfl, rfl, rfl, rfl⟩ := H
  go_enter Tryz.func56, Tryz.ntmps56
  go_wp2_with (first | ((with_reducible refine gate_dst (N := 2) rfl ?_); refine box_event ?hg (N := 2) ?hd (cs := #[.int .i64 0, .int .i64 0, .int .i64 0, .int .i64 0, .int .i64 0, .int .i64 0, .int .i64 0]) (t := 73) ?hr ?_; (case hd => rfl); (case hg => rfl); (case hr => first | (go_simp; done) | (go_simp; rfl)); intro gb431 hg w28 hbox hb; have BK431 := Aside0.mk (hbox); have GW431 : Aside0 (w.heap.size ≤ gb431) := gw_ hg; have GE431 : Aside0 (w.heap.size ≤ gb431) := gw_ hg; replace HB := Aside0.mk (below_step blw hb); clear hb hbox hg) | ((with_reducible refine gc 39 rfl ?_); refine cl_ (some 8) Tryz.func39 (bulletinref22_Moment.calls a0 false _ A2.out) ?_; rintro w' ⟨nd, rfl⟩; (try (rw [drewN_self w28]; generalize hq_ : World.drewN w28 _ = w28; have n0_ : Aside0 (w28.heap[gb431]? = some (.cells #[.int .i64 0, .int .i64 0, .int .i64 0, .int .i64 0, .int .i64 0, .int .i64 0, .int .i64 0] 73 (0, 0))) := ⟨by rw [← hq_]; exact (bkw BK431)⟩; have n1_ : Aside0 (Below w.heap.size w w28) := ⟨by rw [← hq_]; exact blw⟩; clear BK431 HB hq_; have BK431 := n0_; have HB := n1_; clear n0_ n1_)); have hcz29_0 : w28.cell? ⟨gb431, 0, none⟩ = some (.int .i64 0) := bk_ BK431; have hcz29_1 : w28.cell? ⟨gb431, 1, none⟩ = some (.int .i64 0) := bk_ BK431; have hcz29_2 : w28.cell? ⟨gb431, 2, none⟩ = some (.int .i64 0) := bk_ BK431; have hcz29_3 : w28.cell? ⟨gb431, 3, none⟩ = some (.int .i64 0) := bk_ BK431; have hcz29_4 : w28.cell? ⟨gb431, 4, none⟩ = some (.int .i64 0) := bk_ BK431; have hcz29_5 : w28.cell? ⟨gb431, 5, none⟩ = some (.int .i64 0) := bk_ BK431; have hcz29_6 : w28.cell? ⟨gb431, 6, none⟩ = some (.int .i64 0) := bk_ BK431; have hfz29_0 := blk_frozen BK431.out 0; have hfz29_1 := blk_frozen BK431.out 1; have hfz29_2 := blk_frozen BK431.out 2; have hfz29_3 := blk_frozen BK431.out 3; have hfz29_4 := blk_frozen BK431.out 4; have hfz29_5 := blk_frozen BK431.out 5; have hfz29_6 := blk_frozen BK431.out 6))
  refine bodyPost_ret (results_ct rfl _ _ gb431 73 #[.int .i64 0, .int .i64 0, .int .i64 0, .int .i64 0, .int .i64 0, .int .i64 0, .int .i64 0] (0, 0) _ rfl (by (with_reducible repeat (first | refine blk_drewN ?_ _ | refine blk_drew ?_ | refine blk_alloc ?_ _)); refine blk_put (cs := #[.int .i64 0, .int .i64 0, .int .i64 0, .int .i64 0, .int .i64 0, .int .i64 0, .int .i64 0]) ?_ 6 _ rfl; (with_reducible repeat (first | refine blk_drewN ?_ _ | refine blk_drew ?_ | refine blk_alloc ?_ _)); refine blk_put (cs := #[.int .i64 0, .int .i64 0, .int .i64 0, .int .i64 0, .int .i64 0, .int .i64 0, .int .i64 0]) ?_ 5 _ rfl; (with_reducible repeat (first | refine blk_drewN ?_ _ | refine blk_drew ?_ | refine blk_alloc ?_ _)); refine blk_put (cs := #[.int .i64 0, .int .i64 0, .int .i64 0, .int .i64 0, .int .i64 0, .int .i64 0, .int .i64 0]) ?_ 4 _ rfl; (with_reducible repeat (first | refine blk_drewN ?_ _ | refine blk_drew ?_ | refine blk_alloc ?_ _)); refine blk_put (cs := #[.int .i64 0, .int .i64 0, .int .i64 0, .int .i64 0, .int .i64 0, .int .i64 0, .int .i64 0]) ?_ 3 _ rfl; (with_reducible repeat (first | refine blk_drewN ?_ _ | refine blk_drew ?_ | refine blk_alloc ?_ _)); refine blk_put (cs := #[.int .i64 0, .int .i64 0, .int .i64 0, .int .i64 0, .int .i64 0, .int .i64 0, .int .i64 0]) ?_ 2 _ rfl; (with_reducible repeat (first | refine blk_drewN ?_ _ | refine blk_drew ?_ | refine blk_alloc ?_ _)); refine blk_put (cs := #[.int .i64 0, .int .i64 0, .int .i64 0, .int .i64 0, .int .i64 0, .int .i64 0, .int .i64 0]) ?_ 1 _ rfl; (with_reducible repeat (first | refine blk_drewN ?_ _ | refine blk_drew ?_ | refine blk_alloc ?_ _)); refine blk_put (cs := #[.int .i64 0, .int .i64 0, .int .i64 0, .int .i64 0, .int .i64 0, .int .i64 0, .int .i64 0]) ?_ 0 _ rfl; (with_reducible repeat (first | refine blk_drewN ?_ _ | refine blk_drew ?_ | refine blk_alloc ?_ _)); exact BK431.out) Tryz.underlying73 rfl (by kernel_rfl)) rfl ?_
  exact ⟨by first | rfl | (simp [errW_none, errW_some] <;> rfl) | (simp [*, errW_none, errW_some] <;> rfl), blw⟩

/-! ### bulletinref01_Digits: function 57 -/
def bulletinref01_Digits.l0 : Nat → Int → ByteArray → Int → Option (ByteArray)
  | 0, _, _, _ => none
  | k + 1, x0, x3, x4 => if x4 = 0 then ((some (([(wrap64 (48 + (Int.tmod x0 10))) % 256] : List Int) : List Int)).bind fun y438 => (if (strOfNums y438).size + x3.size ≤ 9223372036854775807 then (bulletinref01_Digits.l0 k (wrap64 (Int.tdiv x0 10)) ((strOfNums y438) ++ x3) (wrap64 (x4 + 1))) else (none))) else (if x0 > 0 then (if x4 < 20 then ((some (([(wrap64 (48 + (Int.tmod x0 10))) % 256] : List Int) : List Int)).bind fun y441 => (if (strOfNums y441).size + x3.size ≤ 9223372036854775807 then (bulletinref01_Digits.l0 k (wrap64 (Int.tdiv x0 10)) ((strOfNums y441) ++ x3) (wrap64 (x4 + 1))) else (none))) else (some x3)) else (some x3))
def bulletinref01_Digits.f (k : Nat) (a0 : Int) : Option (ByteArray) := bulletinref01_Digits.l0 k a0 (⟨#[]⟩ : ByteArray) 0
theorem bulletinref01_Digits.mono_l : ∀ k, (∀ y0 y1 y2, LeO (bulletinref01_Digits.l0 k y0 y1 y2) (bulletinref01_Digits.l0 (k + 1) y0 y1 y2))
  | 0 => fun _ _ _ r h => by simp [bulletinref01_Digits.l0] at h
  | k + 1 => by
    have ih0 := bulletinref01_Digits.mono_l k
    · intro y0 y1 y2
      unfold bulletinref01_Digits.l0
      repeat' first | (with_reducible first | exact ih0 _ _ _ | exact LeO.refl _ | exact LeO.none _ | refine LeO.ite ?_ ?_ | refine LeO.bind ?_ (fun _ => ?_)) | exact ih0 _ _ _ | exact LeO.none _ | refine LeO.ite ?_ ?_ | refine LeO.bind ?_ (fun _ => ?_)
theorem bulletinref01_Digits.mono : ∀ a0 k, LeO (bulletinref01_Digits.f k a0) (bulletinref01_Digits.f (k + 1) a0) := by
  intro a0 k
  have ih0 := bulletinref01_Digits.mono_l k
  unfold bulletinref01_Digits.f
  repeat' first | (with_reducible first | exact ih0 _ _ _ | exact LeO.refl _ | exact LeO.none _ | refine LeO.ite ?_ ?_ | refine LeO.bind ?_ (fun _ => ?_)) | exact ih0 _ _ _ | exact LeO.none _ | refine LeO.ite ?_ ?_ | refine LeO.bind ?_ (fun _ => ?_)
set_option maxHeartbeats 8000000 in
set_option maxRecDepth 100000 in
theorem bulletinref01_Digits.calls (k : Nat) (a0 : Int) (r : ByteArray) (w : World) (h : bulletinref01_Digits.f k a0 = some r) :
    Calls Tryz.prog 57 #[.int .i64 a0] w fun e w' => e = .returned (.string r) ∧ Below w.heap.size w w' := by
 have HB := Aside0.mk (Below.refl w.heap.size w)
 unfold bulletinref01_Digits.f at h
 have H := h
 clear h
 have H' := Aside0.mk H
 clear H
 go_enter Tryz.func57, Tryz.ntmps57
 go_wp2
 go_loopg [0, 3, 4] k (fun kq v0 v3 v4 w' => ∃ (x0_1 : Int) (x3_1 : ByteArray) (x4_1 : Int), v0 = .int .i64 x0_1 ∧ v3 = .string x3_1 ∧ v4 = .int .i64 x4_1 ∧ Aside0 (bulletinref01_Digits.l0 kq x0_1 x3_1 x4_1 = some r) ∧ Aside0 (kq ≤ k) ∧ Aside0 (Below w.heap.size w w'))
 case atStart => exact ⟨(a0), ((⟨#[]⟩ : ByteArray)), (0), eqs, eqs, eqs, H', ⟨Nat.le_refl _⟩, ⟨blw⟩⟩
 case round =>
  clear H'
  obtain ⟨x0_1, x3_1, x4_1, rfl, rfl, rfl, HA, HK1, HB⟩ := hrel
  cases gk with
  | zero => exact absurd HA.out (by simp [bulletinref01_Digits.l0])
  | succ k1 =>
   have H := HA.out
   clear HA
   simp only [bulletinref01_Digits.l0] at H
   by_cases c2 : x4_1 = 0
   ·rw [if_pos c2] at H
    have c2b0 := beq_iff_eq.mpr c2
    have c2b1 := bne_eq_false_iff_eq.mpr c2
    clear c2
    obtain ⟨y438, hy438⟩ : ∃ y_ : List Int, y_ = (([(wrap64 (48 + (Int.tmod x0_1 10))) % 256] : List Int)) := ⟨_, rfl⟩
    replace H : (if (strOfNums y438).size + x3_1.size ≤ 9223372036854775807 then (bulletinref01_Digits.l0 k1 (wrap64 (Int.tdiv x0_1 10)) ((strOfNums y438) ++ x3_1) (wrap64 (x4_1 + 1))) else (none)) = some r := by first | (rw [hy438]; with_reducible exact H) | (have H2_ := (Option.bind_some _ _).symm.trans H; rw [hy438]; with_reducible exact H2_) | (have H2_ := (Option.bind_some _ _).symm.trans H; with_reducible exact H2_) | with_reducible exact H | (rw [hy438]; exact H) | exact H
    have Ny438 := Aside0.mk hy438
    clear hy438
    obtain ⟨c3, H⟩ := iteS H
    have c3b0 := eq_true c3
    have c3b1 := decide_eq_true c3
    try have c3b2 := eq_false (Nat.not_lt.2 c3)
    have H' := Aside0.mk H
    clear H
    go_wp2_with (first | ((with_reducible refine gate_dst (N := 21) rfl ?_); refine Kd.R_lit (Kd.int .u8) _ 5 ?hg (N := 21) ?hd (xs := ([(wrap64 (48 + (Int.tmod x0_1 10))) % 256] : List Int)) (inner := [.int .u8 ((wrap64 (48 + (Int.tmod x0_1 10))) % 256)]) (ok := fun _ => True) (okp := fun _ => True) ?hr ?hp (fun _ hk => hk) trivial (Below.refl _ _) (Nat.le_refl _) (by simp) ?_; (case hd => rfl); (case hg => rfl); (case hr => first | (go_simp; done) | (go_simp; rfl)); (case hp => exact (Reps.one (show Kd.M (Kd.int .u8) _ _ _ ((wrap64 (48 + (Int.tmod x0_1 10))) % 256) [.int .u8 ((wrap64 (48 + (Int.tmod x0_1 10))) % 256)] from rfl) (Reps.none _ _))); intro v439 w4 ho5 hb hg_ hnew_; clear hg_ hnew_; (first | rw [← Ny438.out] at ho5 | (simp only [Int.reduceToNat] at ho5; rw [← Ny438.out] at ho5)); have HO440 := Aside0.mk (Kd.R_lower ho5 (below_size blw)); replace HB := Aside0.mk (below_step blw hb); clear hb ho5; have hcv6 := own_string (P := Tryz.prog) Tryz.underlying88 Tryz.underlying5 Tryz.underlying9 (Kd.own_of_R HO440.out)))
    go_roundg k1
    case measure => have := HK1.out; omega
    case rel => exact ⟨(wrap64 (Int.tdiv x0_1 10)), ((strOfNums y438) ++ x3_1), (wrap64 (x4_1 + 1)), eqs, eqs, eqs, H', ⟨by have := HK1.out; omega⟩, ⟨blw⟩⟩
   ·rw [if_neg c2] at H
    have c2b0 := beq_eq_false_iff_ne.mpr c2
    have c2b1 := bne_iff_ne.mpr c2
    by_cases c7 : x0_1 > 0
    ·rw [if_pos c7] at H
     have c7b0 : decide (0 < x0_1) = true := decide_eq_true c7
     clear c7
     by_cases c8 : x4_1 < 20
     ·rw [if_pos c8] at H
      have c8b0 := decide_eq_true c8
      clear c8
      obtain ⟨y441, hy441⟩ : ∃ y_ : List Int, y_ = (([(wrap64 (48 + (Int.tmod x0_1 10))) % 256] : List Int)) := ⟨_, rfl⟩
      replace H : (if (strOfNums y441).size + x3_1.size ≤ 9223372036854775807 then (bulletinref01_Digits.l0 k1 (wrap64 (Int.tdiv x0_1 10)) ((strOfNums y441) ++ x3_1) (wrap64 (x4_1 + 1))) else (none)) = some r := by first | (rw [hy441]; with_reducible exact H) | (have H2_ := (Option.bind_some _ _).symm.trans H; rw [hy441]; with_reducible exact H2_) | (have H2_ := (Option.bind_some _ _).symm.trans H; with_reducible exact H2_) | with_reducible exact H | (rw [hy441]; exact H) | exact H
      have Ny441 := Aside0.mk hy441
      clear hy441
      obtain ⟨c9, H⟩ := iteS H
      have c9b0 := eq_true c9
      have c9b1 := decide_eq_true c9
      try have c9b2 := eq_false (Nat.not_lt.2 c9)
      have H' := Aside0.mk H
      clear H
      go_wp2_with (first | ((with_reducible refine gate_dst (N := 21) rfl ?_); refine Kd.R_lit (Kd.int .u8) _ 5 ?hg (N := 21) ?hd (xs := ([(wrap64 (48 + (Int.tmod x0_1 10))) % 256] : List Int)) (inner := [.int .u8 ((wrap64 (48 + (Int.tmod x0_1 10))) % 256)]) (ok := fun _ => True) (okp := fun _ => True) ?hr ?hp (fun _ hk => hk) trivial (Below.refl _ _) (Nat.le_refl _) (by simp) ?_; (case hd => rfl); (case hg => rfl); (case hr => first | (go_simp; done) | (go_simp; rfl)); (case hp => exact (Reps.one (show Kd.M (Kd.int .u8) _ _ _ ((wrap64 (48 + (Int.tmod x0_1 10))) % 256) [.int .u8 ((wrap64 (48 + (Int.tmod x0_1 10))) % 256)] from rfl) (Reps.none _ _))); intro v442 w10 ho11 hb hg_ hnew_; clear hg_ hnew_; (first | rw [← Ny441.out] at ho11 | (simp only [Int.reduceToNat] at ho11; rw [← Ny441.out] at ho11)); have HO443 := Aside0.mk (Kd.R_lower ho11 (below_size blw)); replace HB := Aside0.mk (below_step blw hb); clear hb ho11; have hcv12 := own_string (P := Tryz.prog) Tryz.underlying88 Tryz.underlying5 Tryz.underlying9 (Kd.own_of_R HO443.out)))
      go_roundg k1
      case measure => have := HK1.out; omega
      case rel => exact ⟨(wrap64 (Int.tdiv x0_1 10)), ((strOfNums y441) ++ x3_1), (wrap64 (x4_1 + 1)), eqs, eqs, eqs, H', ⟨by have := HK1.out; omega⟩, ⟨blw⟩⟩
     ·rw [if_neg c8] at H
      have c8b0 := decide_eq_false c8
      clear c8
      obtain rfl := Option.some.inj H
      go_wp2
      go_ret
      exact ⟨by first | rfl | (simp [errW_none, errW_some] <;> rfl) | (simp [*, errW_none, errW_some] <;> rfl), blw⟩
    ·rw [if_neg c7] at H
     have c7b0 : decide (0 < x0_1) = false := decide_eq_false c7
     clear c7
     obtain rfl := Option.some.inj H
     go_wp2
     go_ret
     exact ⟨by first | rfl | (simp [errW_none, errW_some] <;> rfl) | (simp [*, errW_none, errW_some] <;> rfl), blw⟩

/-! ### bulletinref22_Week: function 58 -/
def bulletinref22_Week.f (a0 : Int) : Option (ByteArray) := if 0 ≤ (wrap64 (3 * a0)) then (if (wrap64 (3 * a0)) ≤ (wrap64 ((wrap64 (3 * a0)) + 3)) then (if (wrap64 ((wrap64 (3 * a0)) + 3)) ≤ 21 then (some ((⟨#[83, 117, 110, 77, 111, 110, 84, 117, 101, 87, 101, 100, 84, 104, 117, 70, 114, 105, 83, 97, 116]⟩ : ByteArray).extract ((wrap64 (3 * a0)) : Int).toNat ((wrap64 ((wrap64 (3 * a0)) + 3)) : Int).toNat)) else (none)) else (none)) else (none)
set_option maxHeartbeats 8000000 in
set_option maxRecDepth 100000 in
theorem bulletinref22_Week.calls (a0 : Int) (r : ByteArray) (w : World) (h : bulletinref22_Week.f a0 = some r) :
    Calls Tryz.prog 58 #[.int .i64 a0] w fun e w' => e = .returned (.string r) ∧ Drawn0 w w' := by
 unfold bulletinref22_Week.f at h
 have H := h
 clear h
 obtain ⟨ji2, hji2⟩ : ∃ j_ : Int, (wrap64 (3 * a0)) = j_ := ⟨_, rfl⟩
 replace H : (if 0 ≤ (ji2) then (if (ji2) ≤ (wrap64 ((ji2) + 3)) then (if (wrap64 ((ji2) + 3)) ≤ 21 then (some ((⟨#[83, 117, 110, 77, 111, 110, 84, 117, 101, 87, 101, 100, 84, 104, 117, 70, 114, 105, 83, 97, 116]⟩ : ByteArray).extract ((ji2) : Int).toNat ((wrap64 ((ji2) + 3)) : Int).toNat)) else (none)) else (none)) else (none)) = some r := by first | (rw [hji2] at H; exact H) | (simp only [hji2] at H ⊢; exact H)
 have hji2w : (IntKind.i64.wrap (3 * a0)) = ji2 := (i64_w _).trans hji2
 obtain ⟨c3, H⟩ := iteS H
 have c3b0 := eq_true c3
 have c3b1 := decide_eq_true c3
 clear c3
 obtain ⟨c4, H⟩ := iteS H
 have c4b0 := eq_true c4
 have c4b1 := decide_eq_true c4
 obtain ⟨c5, H⟩ := iteS H
 have c5b0 := eq_true c5
 have c5b1 := decide_eq_true c5
 obtain rfl := Option.some.inj H
 go_enter Tryz.func58, Tryz.ntmps58
 go_wp2
 go_ret
 exact ⟨by first | rfl | (simp; done) | (simp only [← hji2] <;> (first | rfl | simp)) | (simp [*]; done), drw⟩

/-! ### bulletinref22_Month: function 59 -/
def bulletinref22_Month.f (a0 : Int) : Option (ByteArray) := if 0 ≤ (wrap64 ((wrap64 (3 * a0)) - 3)) then (if (wrap64 ((wrap64 (3 * a0)) - 3)) ≤ (wrap64 (3 * a0)) then (if (wrap64 (3 * a0)) ≤ 36 then (some ((⟨#[74, 97, 110, 70, 101, 98, 77, 97, 114, 65, 112, 114, 77, 97, 121, 74, 117, 110, 74, 117, 108, 65, 117, 103, 83, 101, 112, 79, 99, 116, 78, 111, 118, 68, 101, 99]⟩ : ByteArray).extract ((wrap64 ((wrap64 (3 * a0)) - 3)) : Int).toNat ((wrap64 (3 * a0)) : Int).toNat)) else (none)) else (none)) else (none)
set_option maxHeartbeats 8000000 in
set_option maxRecDepth 100000 in
theorem bulletinref22_Month.calls (a0 : Int) (r : ByteArray) (w : World) (h : bulletinref22_Month.f a0 = some r) :
    Calls Tryz.prog 59 #[.int .i64 a0] w fun e w' => e = .returned (.string r) ∧ Drawn0 w w' := by
 unfold bulletinref22_Month.f at h
 have H := h
 clear h
 obtain ⟨ji2, hji2⟩ : ∃ j_ : Int, (wrap64 ((wrap64 (3 * a0)) - 3)) = j_ := ⟨_, rfl⟩
 replace H : (if 0 ≤ (ji2) then (if (ji2) ≤ (wrap64 (3 * a0)) then (if (wrap64 (3 * a0)) ≤ 36 then (some ((⟨#[74, 97, 110, 70, 101, 98, 77, 97, 114, 65, 112, 114, 77, 97, 121, 74, 117, 110, 74, 117, 108, 65, 117, 103, 83, 101, 112, 79, 99, 116, 78, 111, 118, 68, 101, 99]⟩ : ByteArray).extract ((ji2) : Int).toNat ((wrap64 (3 * a0)) : Int).toNat)) else (none)) else (none)) else (none)) = some r := by first | (rw [hji2] at H; exact H) | (simp only [hji2] at H ⊢; exact H)
 have hji2w : (IntKind.i64.wrap ((wrap64 (3 * a0)) - 3)) = ji2 := (i64_w _).trans hji2
 obtain ⟨c3, H⟩ := iteS H
 have c3b0 := eq_true c3
 have c3b1 := decide_eq_true c3
 clear c3
 obtain ⟨c4, H⟩ := iteS H
 have c4b0 := eq_true c4
 have c4b1 := decide_eq_true c4
 clear c4
 obtain ⟨c5, H⟩ := iteS H
 have c5b0 := eq_true c5
 have c5b1 := decide_eq_true c5
 clear c5
 obtain rfl := Option.some.inj H
 go_enter Tryz.func59, Tryz.ntmps59
 go_wp2
 go_ret
 exact ⟨by first | rfl | (simp; done) | (simp only [← hji2] <;> (first | rfl | simp)) | (simp [*]; done), drw⟩

/-! ### bulletinref22_two: function 92 -/
def bulletinref22_two.f (k : Nat) (a0 : Int) : Option (ByteArray) := (bulletinref01_Digits.f k (wrap64 (Int.tdiv a0 10))).bind fun t444 => ((bulletinref01_Digits.f k (Int.tmod a0 10)).bind fun t445 => (if t444.size + t445.size ≤ 9223372036854775807 then (some (t444 ++ t445)) else (none)))
theorem bulletinref22_two.mono : ∀ a0 k, LeO (bulletinref22_two.f k a0) (bulletinref22_two.f (k + 1) a0) := by
  intro a0 k
  unfold bulletinref22_two.f
  repeat' first | (with_reducible first | exact bulletinref01_Digits.mono _ _ | exact LeO.refl _ | exact LeO.none _ | refine LeO.ite ?_ ?_ | refine LeO.bind ?_ (fun _ => ?_)) | exact bulletinref01_Digits.mono _ _ | exact LeO.none _ | refine LeO.ite ?_ ?_ | refine LeO.bind ?_ (fun _ => ?_)
set_option maxHeartbeats 8000000 in
set_option maxRecDepth 100000 in
theorem bulletinref22_two.calls (k : Nat) (a0 : Int) (r : ByteArray) (w : World) (h : bulletinref22_two.f k a0 = some r) :
    Calls Tryz.prog 92 #[.int .i64 a0] w fun e w' => e = .returned (.string r) ∧ Below w.heap.size w w' := by
 have HB := Aside0.mk (Below.refl w.heap.size w)
 unfold bulletinref22_two.f at h
 have H := h
 clear h
 replace H := Option.bind_eq_some_iff.mp H
 obtain ⟨t444, A20, H⟩ := H
 try dsimp only at H
 have A2 := Aside0.mk A20
 clear A20
 replace H := Option.bind_eq_some_iff.mp H
 obtain ⟨t445, A30, H⟩ := H
 try dsimp only at H
 have A3 := Aside0.mk A30
 clear A30
 obtain ⟨c4, H⟩ := iteS H
 have c4b0 := eq_true c4
 have c4b1 := decide_eq_true c4
 try have c4b2 := eq_false (Nat.not_lt.2 c4)
 obtain rfl := Option.some.inj H
 go_enter Tryz.func92, Tryz.ntmps92
 go_wp2_with (first | ((with_reducible refine gc 57 rfl ?_); refine cl_ (some 5) Tryz.func57 (bulletinref01_Digits.calls k (wrap64 (Int.tdiv a0 10)) t444 _ A2.out) ?_; rintro w5 hb; replace HB := Aside0.mk (below_step blw hb); (try clear hb)) | ((with_reducible refine gc 57 rfl ?_); refine cl_ (some 8) Tryz.func57 (bulletinref01_Digits.calls k (Int.tmod a0 10) t445 _ A3.out) ?_; rintro w6 hb; replace HB := Aside0.mk (below_step blw hb); (try clear hb)))
 go_ret
 exact ⟨by first | rfl | (simp [errW_none, errW_some] <;> rfl) | (simp [*, errW_none, errW_some] <;> rfl), blw⟩

/-! ### bulletinref22_clock: function 60 -/
def bulletinref22_clock.f (k : Nat) (a0_0 : Int) (a0_1 : Int) (a0_2 : Int) (a0_3 : Int) (a0_4 : Int) (a0_5 : Int) (a0_6 : Int) : Option (ByteArray) := (bulletinref22_two.f k a0_3).bind fun t447 => (if t447.size + 1 ≤ 9223372036854775807 then ((bulletinref22_two.f k a0_4).bind fun t448 => (if t447.size + 1 + t448.size ≤ 9223372036854775807 then (if t447.size + 1 + t448.size + 1 ≤ 9223372036854775807 then ((bulletinref22_two.f k a0_5).bind fun t449 => (if t447.size + 1 + t448.size + 1 + t449.size ≤ 9223372036854775807 then (some ((((t447 ++ (⟨#[58]⟩ : ByteArray)) ++ t448) ++ (⟨#[58]⟩ : ByteArray)) ++ t449)) else (none))) else (none)) else (none))) else (none))
theorem bulletinref22_clock.mono : ∀ a0 a1 a2 a3 a4 a5 a6 k, LeO (bulletinref22_clock.f k a0 a1 a2 a3 a4 a5 a6) (bulletinref22_clock.f (k + 1) a0 a1 a2 a3 a4 a5 a6) := by
  intro a0 a1 a2 a3 a4 a5 a6 k
  unfold bulletinref22_clock.f
  repeat' first | (with_reducible first | exact bulletinref22_two.mono _ _ | exact LeO.refl _ | exact LeO.none _ | refine LeO.ite ?_ ?_ | refine LeO.bind ?_ (fun _ => ?_)) | exact bulletinref22_two.mono _ _ | exact LeO.none _ | refine LeO.ite ?_ ?_ | refine LeO.bind ?_ (fun _ => ?_)
def bulletinref22_clock.T1 : Bool × List (List Nat × List Nat) := (true, [([], []), ([0], [0]), ([1], [1]), ([2], [2]), ([], []), ([4], [4]), ([5, 2], [5]), ([3, 6], [3, 6]), ([7], [7]), ([], []), ([9], [9]), ([10, 6], [10]), ([8, 11], [8, 11]), ([12, 11, 0, 1, 2, 3, 4, 5, 6, 7, 8, 9, 10, 11, 12], [12])])
def bulletinref22_clock.B1 : List Nat := [0, 1, 3, 7, 0, 16, 55, 127, 255, 0, 512, 1655, 4095, 8191]
theorem bulletinref22_clock.tab1 : rtab .any (opsOf Tryz.f60 1) = bulletinref22_clock.T1 := by kernel_rfl
theorem bulletinref22_clock.bits1 : waitsOk bulletinref22_clock.T1.2 bulletinref22_clock.B1 = true := by kernel_rfl
set_option maxHeartbeats 8000000 in
set_option maxRecDepth 100000 in
theorem bulletinref22_clock.calls (k : Nat) (a0_0 : Int) (a0_1 : Int) (a0_2 : Int) (a0_3 : Int) (a0_4 : Int) (a0_5 : Int) (a0_6 : Int) (r : ByteArray) (w : World) (h : bulletinref22_clock.f k a0_0 a0_1 a0_2 a0_3 a0_4 a0_5 a0_6 = some r) :
    Calls Tryz.prog 60 #[.agg #[.int .i64 a0_0, .int .i64 a0_1, .int .i64 a0_2, .int .i64 a0_3, .int .i64 a0_4, .int .i64 a0_5, .int .i64 a0_6]] w fun e w' => e = .returned (.string r) ∧ Below w.heap.size w w' := by
 have hu73 := Tryz.underlying73
 have HB := Aside0.mk (Below.refl w.heap.size w)
 unfold bulletinref22_clock.f at h
 have H := h
 clear h
 replace H := Option.bind_eq_some_iff.mp H
 obtain ⟨t447, A20, H⟩ := H
 try dsimp only at H
 have A2 := Aside0.mk A20
 clear A20
 obtain ⟨c3, H⟩ := iteS H
 have c3b0 := eq_true c3
 have c3b1 := decide_eq_true c3
 try have c3b2 := eq_false (Nat.not_lt.2 c3)
 replace H := Option.bind_eq_some_iff.mp H
 obtain ⟨t448, A40, H⟩ := H
 try dsimp only at H
 have A4 := Aside0.mk A40
 clear A40
 obtain ⟨c5, H⟩ := iteS H
 have c5b0 := eq_true c5
 have c5b1 := decide_eq_true c5
 try have c5b2 := eq_false (Nat.not_lt.2 c5)
 obtain ⟨c6, H⟩ := iteS H
 have c6b0 := eq_true c6
 have c6b1 := decide_eq_true c6
 try have c6b2 := eq_false (Nat.not_lt.2 c6)
 replace H := Option.bind_eq_some_iff.mp H
 obtain ⟨t449, A70, H⟩ := H
 try dsimp only at H
 have A7 := Aside0.mk A70
 clear A70
 obtain ⟨c8, H⟩ := iteS H
 have c8b0 := eq_true c8
 have c8b1 := decide_eq_true c8
 try have c8b2 := eq_false (Nat.not_lt.2 c8)
 obtain rfl := Option.some.inj H
 go_enter Tryz.func60, Tryz.ntmps60
 try go_wp2_with (first | ((with_reducible refine gate_dst (N := 1) rfl ?_); refine box_event ?hg (N := 1) ?hd (cs := #[.int .i64 a0_0, .int .i64 a0_1, .int .i64 a0_2, .int .i64 a0_3, .int .i64 a0_4, .int .i64 a0_5, .int .i64 a0_6]) (t := 73) ?hr ?_; (case hd => rfl); (case hg => rfl); (case hr => first | (go_simp; done) | (go_simp; rfl)); intro gb446 hg w9 hbox hb; have BK446 := Aside0.mk (hbox); have GW446 : Aside0 (w.heap.size ≤ gb446) := gw_ hg; have GE446 : Aside0 (w.heap.size ≤ gb446) := gw_ hg; replace HB := Aside0.mk (below_step blw hb); clear hb hbox hg))
 replace BK446 := Aside0.mk (blk_drew BK446.out)
 replace HB := Aside0.mk (below_drew1 HB.out)
 refine start_ (n := 14) (S := fun w' => w'.cell? ⟨gb446, 0, none⟩ = some (.int .i64 a0_0) ∧ w'.cell? ⟨gb446, 1, none⟩ = some (.int .i64 a0_1) ∧ w'.cell? ⟨gb446, 2, none⟩ = some (.int .i64 a0_2) ∧ w'.cell? ⟨gb446, 3, none⟩ = some (.int .i64 a0_3) ∧ w'.cell? ⟨gb446, 4, none⟩ = some (.int .i64 a0_4) ∧ w'.cell? ⟨gb446, 5, none⟩ = some (.int .i64 a0_5) ∧ w'.cell? ⟨gb446, 6, none⟩ = some (.int .i64 a0_6)) (ds := []) (ba 14 0) (by kernel_rfl) rfl rfl ⟨bk_ BK446, bk_ BK446, bk_ BK446, bk_ BK446, bk_ BK446, bk_ BK446, bk_ BK446⟩ (fun hHeld => ?_); refine with_tabW bulletinref22_clock.tab1 bulletinref22_clock.bits1 (fun HT_ HW_ => ?_)
 generalize w9.drew = w10 at BK446 HB hHeld ⊢
 refine pu_ 0 3 1 ?_
 refine pu_ 4 7 17 ?_
 refine pu_ 9 12 529 ?_
 refine tk_ 1 4 531 hHeld ?_
 refine tk_ 5 8 563 hHeld ?_
 refine tk_ 10 13 1587 hHeld ?_
 refine one1 2 (some 5) 1591 (fun K hK => ?_)
 refine go1 Tryz.func92 #[.int .i64 a0_3] ?_
 with_reducible refine (bulletinref22_two.calls k a0_3 t447 _ A2.out).mono ?_
 rintro e w11 ⟨rfl, hb⟩
 refine ⟨_, rfl, ?_⟩
 replace BK446 := Aside0.mk (blk_below (g := gb446) (o := .cells #[.int .i64 a0_0, .int .i64 a0_1, .int .i64 a0_2, .int .i64 a0_3, .int .i64 a0_4, .int .i64 a0_5, .int .i64 a0_6] 73 (0, 0)) (bkw BK446) hb)
 replace HB := Aside0.mk (below_step blw hb)
 (try clear hb)
 refine hK.out _ _ ⟨bk_ BK446, bk_ BK446, bk_ BK446, bk_ BK446, bk_ BK446, bk_ BK446, bk_ BK446⟩ (fun hHeld => ?_)
 clear hK K
 refine nm_ (some 5) ?_
 refine pu_ 3 6 1599 ?_
 refine one1 6 (some 9) 1663 (fun K hK => ?_)
 refine go1 Tryz.func92 #[.int .i64 a0_4] ?_
 with_reducible refine (bulletinref22_two.calls k a0_4 t448 _ A4.out).mono ?_
 rintro e w12 ⟨rfl, hb⟩
 refine ⟨_, rfl, ?_⟩
 replace BK446 := Aside0.mk (blk_below (g := gb446) (o := .cells #[.int .i64 a0_0, .int .i64 a0_1, .int .i64 a0_2, .int .i64 a0_3, .int .i64 a0_4, .int .i64 a0_5, .int .i64 a0_6] 73 (0, 0)) (bkw BK446) hb)
 replace HB := Aside0.mk (below_step blw hb)
 (try clear hb)
 refine hK.out _ _ ⟨bk_ BK446, bk_ BK446, bk_ BK446, bk_ BK446, bk_ BK446, bk_ BK446, bk_ BK446⟩ (fun hHeld => ?_)
 clear hK K
 refine nm_ (some 9) ?_
 refine pu_ 7 10 1791 ?_
 refine pu_ 8 11 2047 ?_
 refine one1 11 (some 14) 4095 (fun K hK => ?_)
 refine go1 Tryz.func92 #[.int .i64 a0_5] ?_
 with_reducible refine (bulletinref22_two.calls k a0_5 t449 _ A7.out).mono ?_
 rintro e w13 ⟨rfl, hb⟩
 refine ⟨_, rfl, ?_⟩
 replace BK446 := Aside0.mk (blk_below (g := gb446) (o := .cells #[.int .i64 a0_0, .int .i64 a0_1, .int .i64 a0_2, .int .i64 a0_3, .int .i64 a0_4, .int .i64 a0_5, .int .i64 a0_6] 73 (0, 0)) (bkw BK446) hb)
 replace HB := Aside0.mk (below_step blw hb)
 (try clear hb)
 refine hK.out _ _ ⟨bk_ BK446, bk_ BK446, bk_ BK446, bk_ BK446, bk_ BK446, bk_ BK446, bk_ BK446⟩ (fun hHeld => ?_)
 clear hK K
 refine nm_ (some 14) ?_
 refine pu_ 12 15 8191 ?_
 refine pu_ 13 2 16383 ?_
 refine done_ (done_of HT_.out (by kernel_rfl)) ?_
 try go_wp2
 go_ret
 exact ⟨by first | rfl | (simp [errW_none, errW_some] <;> rfl) | (simp [*, errW_none, errW_some] <;> rfl), blw⟩

end Go.Proofs.YtcpmoolpbeeedaaGreatDoor.Q
