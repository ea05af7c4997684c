-- Written by a program of this session (wip/myprint) out of the translation, for YtcpmoolpbeeedaaGreatDoor.
import Derived.Test.YtcpmoolpbeeedaaGreatDoorQ0
import Derived.Test.YtcpmoolpbeeedaaGreatDoorQ5
import Derived.Test.YtcpmoolpbeeedaaGreatDoorQ15
namespace Go.Proofs.YtcpmoolpbeeedaaGreatDoor.Q
open Go.RowKit Go.Proofs.YtcpmoolpbeeedaaGreatDoorW.PrintWords Go.Proofs.YtcpmoolpbeeedaaGreatDoorW.PrintLast Go.Proofs.YtcpmoolpbeeedaaGreatDoorW.PrintMore Go.Proofs.YtcpmoolpbeeedaaGreatDoorW.PrintSq
attribute [local go_sem] max2_int min2_int max_two min_two max_three min_three max_four min_four   -- for this text's walks alone
set_option linter.unusedVariables false
set_option linter.unusedSimpArgs false

/-! ### date_long: function 174 -/
def date_long.f (a0 : Int) (a1 : Int) : Option (Int) := if a1 = 12 then (some 31) else ((date_gone.f a0 (wrap64 (a1 + 1))).bind fun t292 => ((date_gone.f a0 a1).bind fun t293 => (some (wrap64 (t292 - t293)))))
set_option maxHeartbeats 8000000 in
set_option maxRecDepth 100000 in
theorem date_long.calls (a0 : Int) (a1 : Int) (r : Int) (w : World) (hG : Amb w) (h : date_long.f a0 a1 = some r) :
    Calls Tryz.prog 174 #[.int .i64 a0, .int .i64 a1] w fun e w' => e = .returned (.int .i64 r) ∧ Drawn0 w w' := by
 unfold date_long.f at h
 have H := h
 clear h
 have HG := Aside0.mk hG
 clear hG
 by_cases c3 : a1 = 12
 ·rw [if_pos c3] at H
  have c3b0 := beq_iff_eq.mpr c3
  have c3b1 := bne_eq_false_iff_eq.mpr c3
  clear c3
  obtain rfl := Option.some.inj H
  go_enter Tryz.func174, Tryz.ntmps174
  go_wp2
  go_ret
  exact ⟨eqs, drw⟩
 ·rw [if_neg c3] at H
  have c3b0 := beq_eq_false_iff_ne.mpr c3
  have c3b1 := bne_iff_ne.mpr c3
  replace H := Option.bind_eq_some_iff.mp H
  obtain ⟨t292, A40, H⟩ := H
  try dsimp only at H
  have A4 := Aside0.mk A40
  clear A40
  replace H := Option.bind_eq_some_iff.mp H
  obtain ⟨t293, A50, H⟩ := H
  try dsimp only at H
  have A5 := Aside0.mk A50
  clear A50
  obtain rfl := Option.some.inj H
  go_enter Tryz.func174, Tryz.ntmps174
  go_wp2_with (first | ((with_reducible refine gc 116 rfl ?_); refine cl_ (some 10) Tryz.func116 (date_gone.calls a0 (wrap64 (a1 + 1)) t292 _ (Amb.drawn HG.out drw) A4.out) ?_; rintro w' ⟨nd, rfl⟩) | ((with_reducible refine gc 116 rfl ?_); refine cl_ (some 13) Tryz.func116 (date_gone.calls a0 a1 t293 _ (Amb.drawn HG.out drw) A5.out) ?_; rintro w' ⟨nd, rfl⟩))
  go_ret
  exact ⟨eqs, drw⟩

/-! ### date_Number: function 159 -/
mutual
def date_Number.j0 : Nat → Bool → Int → Int → Int → Int → Int → Int → Int → Option (Int × Int)
  | 0, _, _, _, _, _, _, _, _ => none
  | k + 1, x26, x295000, x295001, x295002, x295003, x295004, x295005, x295006 => if x26 = true then (some (0, 1)) else ((date_within.f x295003 0 23).bind fun t299 => (if t299 = true then ((date_within.f x295004 0 59).bind fun t300 => (if t300 = true then ((date_within.f x295005 0 59).bind fun t301 => (date_Number.j1 k (!t301) x295000 x295001 x295002 x295003 x295004 x295005 x295006)) else (date_Number.j1 k true x295000 x295001 x295002 x295003 x295004 x295005 x295006))) else (date_Number.j1 k true x295000 x295001 x295002 x295003 x295004 x295005 x295006)))
def date_Number.j1 : Nat → Bool → Int → Int → Int → Int → Int → Int → Int → Option (Int × Int)
  | 0, _, _, _, _, _, _, _, _ => none
  | k + 1, x42, x295000, x295001, x295002, x295003, x295004, x295005, x295006 => if x42 = true then (some (0, 1)) else ((date_years.f x295000).bind fun t302 => ((date_years.f 1970).bind fun t303 => ((date_gone.f x295000 x295001).bind fun t304 => ((date_moment.f (wrap64 ((wrap64 ((wrap64 ((wrap64 ((wrap64 ((wrap64 ((wrap64 ((wrap64 (t302 - t303)) + t304)) + x295002)) - 1)) * 86400)) + (wrap64 (x295003 * 3600)))) + (wrap64 (x295004 * 60)))) + x295005))).bind fun t305 => (if t305 = true then (some (wrap64 ((wrap64 ((wrap64 ((wrap64 ((wrap64 ((wrap64 ((wrap64 ((wrap64 (t302 - t303)) + t304)) + x295002)) - 1)) * 86400)) + (wrap64 (x295003 * 3600)))) + (wrap64 (x295004 * 60)))) + x295005), 0)) else (some (0, 1)))))))
end
def date_Number.f (k : Nat) (a0_0 : Int) (a0_1 : Int) (a0_2 : Int) (a0_3 : Int) (a0_4 : Int) (a0_5 : Int) (a0_6 : Int) : Option (Int × Int) := (date_within.f a0_0 1970 40000).bind fun t295 => (if t295 = true then ((date_within.f a0_1 1 12).bind fun t296 => (if t296 = true then ((date_long.f a0_0 a0_1).bind fun t297 => ((date_within.f a0_2 1 t297).bind fun t298 => (date_Number.j0 k (!t298) a0_0 a0_1 a0_2 a0_3 a0_4 a0_5 a0_6))) else (date_Number.j0 k true a0_0 a0_1 a0_2 a0_3 a0_4 a0_5 a0_6))) else (date_Number.j0 k true a0_0 a0_1 a0_2 a0_3 a0_4 a0_5 a0_6))
theorem date_Number.mono_l : ∀ k, (∀ y0 y1 y2 y3 y4 y5 y6 y7, LeO (date_Number.j0 k y0 y1 y2 y3 y4 y5 y6 y7) (date_Number.j0 (k + 1) y0 y1 y2 y3 y4 y5 y6 y7)) ∧ (∀ y0 y1 y2 y3 y4 y5 y6 y7, LeO (date_Number.j1 k y0 y1 y2 y3 y4 y5 y6 y7) (date_Number.j1 (k + 1) y0 y1 y2 y3 y4 y5 y6 y7))
  | 0 => ⟨fun _ _ _ _ _ _ _ _ r h => by simp [date_Number.j0] at h, fun _ _ _ _ _ _ _ _ r h => by simp [date_Number.j1] at h⟩
  | k + 1 => by
    obtain ⟨ih0, ih1⟩ := date_Number.mono_l k
    refine ⟨?_, ?_⟩
    · intro y0 y1 y2 y3 y4 y5 y6 y7
      unfold date_Number.j0
      repeat' first | (with_reducible first | exact ih0 _ _ _ _ _ _ _ _ | exact ih1 _ _ _ _ _ _ _ _ | exact LeO.refl _ | exact LeO.none _ | refine LeO.ite ?_ ?_ | refine LeO.bind ?_ (fun _ => ?_)) | exact ih0 _ _ _ _ _ _ _ _ | exact ih1 _ _ _ _ _ _ _ _ | exact LeO.none _ | refine LeO.ite ?_ ?_ | refine LeO.bind ?_ (fun _ => ?_)
    · intro y0 y1 y2 y3 y4 y5 y6 y7
      unfold date_Number.j1
      repeat' first | (with_reducible first | exact ih0 _ _ _ _ _ _ _ _ | exact ih1 _ _ _ _ _ _ _ _ | exact LeO.refl _ | exact LeO.none _ | refine LeO.ite ?_ ?_ | refine LeO.bind ?_ (fun _ => ?_)) | exact ih0 _ _ _ _ _ _ _ _ | exact ih1 _ _ _ _ _ _ _ _ | exact LeO.none _ | refine LeO.ite ?_ ?_ | refine LeO.bind ?_ (fun _ => ?_)
theorem date_Number.mono : ∀ a0 a1 a2 a3 a4 a5 a6 k, LeO (date_Number.f k a0 a1 a2 a3 a4 a5 a6) (date_Number.f (k + 1) a0 a1 a2 a3 a4 a5 a6) := by
  intro a0 a1 a2 a3 a4 a5 a6 k
  obtain ⟨ih0, ih1⟩ := date_Number.mono_l k
  unfold date_Number.f
  repeat' first | (with_reducible first | exact ih0 _ _ _ _ _ _ _ _ | exact ih1 _ _ _ _ _ _ _ _ | exact LeO.refl _ | exact LeO.none _ | refine LeO.ite ?_ ?_ | refine LeO.bind ?_ (fun _ => ?_)) | exact ih0 _ _ _ _ _ _ _ _ | exact ih1 _ _ _ _ _ _ _ _ | exact LeO.none _ | refine LeO.ite ?_ ?_ | refine LeO.bind ?_ (fun _ => ?_)
set_option maxHeartbeats 8000000 in
set_option maxRecDepth 100000 in
theorem date_Number.calls (k : Nat) (a0_0 : Int) (a0_1 : Int) (a0_2 : Int) (a0_3 : Int) (a0_4 : Int) (a0_5 : Int) (a0_6 : Int) (r1 : Int) (r2 : Int) (w : World) (hG : Amb w) (h : date_Number.f k a0_0 a0_1 a0_2 a0_3 a0_4 a0_5 a0_6 = some (r1, r2)) :
    Calls Tryz.prog 159 #[.agg #[.int .i64 a0_0, .int .i64 a0_1, .int .i64 a0_2, .int .i64 a0_3, .int .i64 a0_4, .int .i64 a0_5, .int .i64 a0_6]] w fun e w' => e = .returned (.tuple #[.int .i64 r1, .int .i64 r2]) ∧ Below w.heap.size w w' := by
 have hu67 := Tryz.underlying67
 have HB := Aside0.mk (Below.refl w.heap.size w)
 unfold date_Number.f at h
 have H := h
 clear h
 have HG := Aside0.mk hG
 clear hG
 have HC2 := Aside0.mk H
 clear H
 go_enter Tryz.func159, Tryz.ntmps159
 go_upto_region 1 with (first | ((with_reducible refine gate_dst (N := 1) rfl ?_); refine box_event ?hg (N := 1) ?hd (cs := #[.int .i64 a0_0, .int .i64 a0_1, .int .i64 a0_2, .int .i64 a0_3, .int .i64 a0_4, .int .i64 a0_5, .int .i64 a0_6]) (t := 67) ?hr ?_; (case hd => rfl); (case hg => rfl); (case hr => first | (go_simp; done) | (go_simp; rfl)); intro gb294 hg w3 hbox hb; have BK294 := Aside0.mk (hbox); have GW294 : Aside0 (w.heap.size ≤ gb294) := gw_ hg; have GE294 : Aside0 (w.heap.size ≤ gb294) := gw_ hg; replace HB := Aside0.mk (below_step blw hb); clear hb hbox hg))
 repeat (go_quiet (first | ((with_reducible refine gate_dst (N := 1) rfl ?_); refine box_event ?hg (N := 1) ?hd (cs := #[.int .i64 a0_0, .int .i64 a0_1, .int .i64 a0_2, .int .i64 a0_3, .int .i64 a0_4, .int .i64 a0_5, .int .i64 a0_6]) (t := 67) ?hr ?_; (case hd => rfl); (case hg => rfl); (case hr => first | (go_simp; done) | (go_simp; rfl)); intro gb294 hg w3 hbox hb; have BK294 := Aside0.mk (hbox); have GW294 : Aside0 (w.heap.size ≤ gb294) := gw_ hg; have GE294 : Aside0 (w.heap.size ≤ gb294) := gw_ hg; replace HB := Aside0.mk (below_step blw hb); clear hb hbox hg)); go_upto_region 1 with (first | ((with_reducible refine gate_dst (N := 1) rfl ?_); refine box_event ?hg (N := 1) ?hd (cs := #[.int .i64 a0_0, .int .i64 a0_1, .int .i64 a0_2, .int .i64 a0_3, .int .i64 a0_4, .int .i64 a0_5, .int .i64 a0_6]) (t := 67) ?hr ?_; (case hd => rfl); (case hg => rfl); (case hr => first | (go_simp; done) | (go_simp; rfl)); intro gb294 hg w3 hbox hb; have BK294 := Aside0.mk (hbox); have GW294 : Aside0 (w.heap.size ≤ gb294) := gw_ hg; have GE294 : Aside0 (w.heap.size ≤ gb294) := gw_ hg; replace HB := Aside0.mk (below_step blw hb); clear hb hbox hg)))
 (try simp only [Act.put, List.setIfInBounds_toArray, List.set_cons_zero, List.set_cons_succ])
 go_cut [26] (fun v26 wc => ∃ (kq : Nat) (x26_1 : Bool), v26 = .bool x26_1 ∧ Aside0 (date_Number.j0 kq x26_1 a0_0 a0_1 a0_2 a0_3 a0_4 a0_5 a0_6 = some (r1, r2)) ∧ Aside0 (kq ≤ k) ∧ Aside0 (wc.heap[gb294]? = some (.cells #[.int .i64 a0_0, .int .i64 a0_1, .int .i64 a0_2, .int .i64 a0_3, .int .i64 a0_4, .int .i64 a0_5, .int .i64 a0_6] 67 (0, 0))) ∧ Aside0 (Below w.heap.size w wc))
 case first =>
  have H := HC2.out
  clear HC2
  replace H := Option.bind_eq_some_iff.mp H
  obtain ⟨t295, A40, H⟩ := H
  try dsimp only at H
  have A4 := Aside0.mk A40
  clear A40
  by_cases c5 : t295 = true
  ·subst c5
   rw [if_pos rfl] at H
   replace H := Option.bind_eq_some_iff.mp H
   obtain ⟨t296, A60, H⟩ := H
   try dsimp only at H
   have A6 := Aside0.mk A60
   clear A60
   by_cases c7 : t296 = true
   ·subst c7
    rw [if_pos rfl] at H
    replace H := Option.bind_eq_some_iff.mp H
    obtain ⟨t297, A80, H⟩ := H
    try dsimp only at H
    have A8 := Aside0.mk A80
    clear A80
    replace H := Option.bind_eq_some_iff.mp H
    obtain ⟨t298, A90, H⟩ := H
    try dsimp only at H
    have A9 := Aside0.mk A90
    clear A90
    have H' := Aside0.mk H
    clear H
    have hcz10_0 : w3.cell? ⟨gb294, 0, none⟩ = some (.int .i64 a0_0) := bk_ BK294
    have hcz10_1 : w3.cell? ⟨gb294, 1, none⟩ = some (.int .i64 a0_1) := bk_ BK294
    have hcz10_2 : w3.cell? ⟨gb294, 2, none⟩ = some (.int .i64 a0_2) := bk_ BK294
    have hcz10_3 : w3.cell? ⟨gb294, 3, none⟩ = some (.int .i64 a0_3) := bk_ BK294
    have hcz10_4 : w3.cell? ⟨gb294, 4, none⟩ = some (.int .i64 a0_4) := bk_ BK294
    have hcz10_5 : w3.cell? ⟨gb294, 5, none⟩ = some (.int .i64 a0_5) := bk_ BK294
    have hcz10_6 : w3.cell? ⟨gb294, 6, none⟩ = some (.int .i64 a0_6) := bk_ BK294
    have hfz10_0 := blk_frozen BK294.out 0
    have hfz10_1 := blk_frozen BK294.out 1
    have hfz10_2 := blk_frozen BK294.out 2
    have hfz10_3 := blk_frozen BK294.out 3
    have hfz10_4 := blk_frozen BK294.out 4
    have hfz10_5 := blk_frozen BK294.out 5
    have hfz10_6 := blk_frozen BK294.out 6
    go_wp2_with (first | (go_at_call 173; (with_reducible refine (date_within.calls a0_0 1970 40000 true _ A4.out).mono ?_); rintro e w' ⟨rfl, ⟨nd, rfl⟩⟩; (try first | exact ⟨rfl, _, World.drewN_drewN _ _ _⟩ | exact ⟨rfl, _, Eq.trans (World.drewN_drewN _ _ _) (congrArg (World.drewN _) (Nat.add_assoc _ _ _))⟩)) | (go_at_call 173; (with_reducible refine (date_within.calls a0_1 1 12 true _ A6.out).mono ?_); rintro e w' ⟨rfl, ⟨nd, rfl⟩⟩; (try first | exact ⟨rfl, _, World.drewN_drewN _ _ _⟩ | exact ⟨rfl, _, Eq.trans (World.drewN_drewN _ _ _) (congrArg (World.drewN _) (Nat.add_assoc _ _ _))⟩)) | (go_at_call 174; (with_reducible refine (date_long.calls a0_0 a0_1 t297 _ ?side1 A8.out).mono ?_); (case side1 => exact Amb.at HG.out blw); rintro e w' ⟨rfl, ⟨nd, rfl⟩⟩; (try first | exact ⟨rfl, _, World.drewN_drewN _ _ _⟩ | exact ⟨rfl, _, Eq.trans (World.drewN_drewN _ _ _) (congrArg (World.drewN _) (Nat.add_assoc _ _ _))⟩)) | (go_at_call 173; (with_reducible refine (date_within.calls a0_2 1 t297 t298 _ A9.out).mono ?_); rintro e w' ⟨rfl, ⟨nd, rfl⟩⟩; (try first | exact ⟨rfl, _, World.drewN_drewN _ _ _⟩ | exact ⟨rfl, _, Eq.trans (World.drewN_drewN _ _ _) (congrArg (World.drewN _) (Nat.add_assoc _ _ _))⟩)))
    repeat (go_quiet (first | (go_at_call 173; (with_reducible refine (date_within.calls a0_0 1970 40000 true _ A4.out).mono ?_); rintro e w' ⟨rfl, ⟨nd, rfl⟩⟩; (try first | exact ⟨rfl, _, World.drewN_drewN _ _ _⟩ | exact ⟨rfl, _, Eq.trans (World.drewN_drewN _ _ _) (congrArg (World.drewN _) (Nat.add_assoc _ _ _))⟩)) | (go_at_call 173; (with_reducible refine (date_within.calls a0_1 1 12 true _ A6.out).mono ?_); rintro e w' ⟨rfl, ⟨nd, rfl⟩⟩; (try first | exact ⟨rfl, _, World.drewN_drewN _ _ _⟩ | exact ⟨rfl, _, Eq.trans (World.drewN_drewN _ _ _) (congrArg (World.drewN _) (Nat.add_assoc _ _ _))⟩)) | (go_at_call 174; (with_reducible refine (date_long.calls a0_0 a0_1 t297 _ ?side1 A8.out).mono ?_); (case side1 => exact Amb.at HG.out blw); rintro e w' ⟨rfl, ⟨nd, rfl⟩⟩; (try first | exact ⟨rfl, _, World.drewN_drewN _ _ _⟩ | exact ⟨rfl, _, Eq.trans (World.drewN_drewN _ _ _) (congrArg (World.drewN _) (Nat.add_assoc _ _ _))⟩)) | (go_at_call 173; (with_reducible refine (date_within.calls a0_2 1 t297 t298 _ A9.out).mono ?_); rintro e w' ⟨rfl, ⟨nd, rfl⟩⟩; (try first | exact ⟨rfl, _, World.drewN_drewN _ _ _⟩ | exact ⟨rfl, _, Eq.trans (World.drewN_drewN _ _ _) (congrArg (World.drewN _) (Nat.add_assoc _ _ _))⟩))); try go_wp2_with (first | (go_at_call 173; (with_reducible refine (date_within.calls a0_0 1970 40000 true _ A4.out).mono ?_); rintro e w' ⟨rfl, ⟨nd, rfl⟩⟩; (try first | exact ⟨rfl, _, World.drewN_drewN _ _ _⟩ | exact ⟨rfl, _, Eq.trans (World.drewN_drewN _ _ _) (congrArg (World.drewN _) (Nat.add_assoc _ _ _))⟩)) | (go_at_call 173; (with_reducible refine (date_within.calls a0_1 1 12 true _ A6.out).mono ?_); rintro e w' ⟨rfl, ⟨nd, rfl⟩⟩; (try first | exact ⟨rfl, _, World.drewN_drewN _ _ _⟩ | exact ⟨rfl, _, Eq.trans (World.drewN_drewN _ _ _) (congrArg (World.drewN _) (Nat.add_assoc _ _ _))⟩)) | (go_at_call 174; (with_reducible refine (date_long.calls a0_0 a0_1 t297 _ ?side1 A8.out).mono ?_); (case side1 => exact Amb.at HG.out blw); rintro e w' ⟨rfl, ⟨nd, rfl⟩⟩; (try first | exact ⟨rfl, _, World.drewN_drewN _ _ _⟩ | exact ⟨rfl, _, Eq.trans (World.drewN_drewN _ _ _) (congrArg (World.drewN _) (Nat.add_assoc _ _ _))⟩)) | (go_at_call 173; (with_reducible refine (date_within.calls a0_2 1 t297 t298 _ A9.out).mono ?_); rintro e w' ⟨rfl, ⟨nd, rfl⟩⟩; (try first | exact ⟨rfl, _, World.drewN_drewN _ _ _⟩ | exact ⟨rfl, _, Eq.trans (World.drewN_drewN _ _ _) (congrArg (World.drewN _) (Nat.add_assoc _ _ _))⟩))))
    go_meet
    case rel => exact ⟨_, (!t298), eqs, H', omk, ⟨bkw BK294⟩, ⟨blw⟩⟩
   ·replace c7 := Bool.eq_false_iff.mpr c7
    subst c7
    rw [if_neg nft] at H
    have H' := Aside0.mk H
    clear H
    have hcz11_0 : w3.cell? ⟨gb294, 0, none⟩ = some (.int .i64 a0_0) := bk_ BK294
    have hcz11_1 : w3.cell? ⟨gb294, 1, none⟩ = some (.int .i64 a0_1) := bk_ BK294
    have hcz11_2 : w3.cell? ⟨gb294, 2, none⟩ = some (.int .i64 a0_2) := bk_ BK294
    have hcz11_3 : w3.cell? ⟨gb294, 3, none⟩ = some (.int .i64 a0_3) := bk_ BK294
    have hcz11_4 : w3.cell? ⟨gb294, 4, none⟩ = some (.int .i64 a0_4) := bk_ BK294
    have hcz11_5 : w3.cell? ⟨gb294, 5, none⟩ = some (.int .i64 a0_5) := bk_ BK294
    have hcz11_6 : w3.cell? ⟨gb294, 6, none⟩ = some (.int .i64 a0_6) := bk_ BK294
    have hfz11_0 := blk_frozen BK294.out 0
    have hfz11_1 := blk_frozen BK294.out 1
    have hfz11_2 := blk_frozen BK294.out 2
    have hfz11_3 := blk_frozen BK294.out 3
    have hfz11_4 := blk_frozen BK294.out 4
    have hfz11_5 := blk_frozen BK294.out 5
    have hfz11_6 := blk_frozen BK294.out 6
    go_wp2_with (first | (go_at_call 173; (with_reducible refine (date_within.calls a0_0 1970 40000 true _ A4.out).mono ?_); rintro e w' ⟨rfl, ⟨nd, rfl⟩⟩; (try first | exact ⟨rfl, _, World.drewN_drewN _ _ _⟩ | exact ⟨rfl, _, Eq.trans (World.drewN_drewN _ _ _) (congrArg (World.drewN _) (Nat.add_assoc _ _ _))⟩)) | (go_at_call 173; (with_reducible refine (date_within.calls a0_1 1 12 false _ A6.out).mono ?_); rintro e w' ⟨rfl, ⟨nd, rfl⟩⟩; (try first | exact ⟨rfl, _, World.drewN_drewN _ _ _⟩ | exact ⟨rfl, _, Eq.trans (World.drewN_drewN _ _ _) (congrArg (World.drewN _) (Nat.add_assoc _ _ _))⟩)))
    repeat (go_quiet (first | (go_at_call 173; (with_reducible refine (date_within.calls a0_0 1970 40000 true _ A4.out).mono ?_); rintro e w' ⟨rfl, ⟨nd, rfl⟩⟩; (try first | exact ⟨rfl, _, World.drewN_drewN _ _ _⟩ | exact ⟨rfl, _, Eq.trans (World.drewN_drewN _ _ _) (congrArg (World.drewN _) (Nat.add_assoc _ _ _))⟩)) | (go_at_call 173; (with_reducible refine (date_within.calls a0_1 1 12 false _ A6.out).mono ?_); rintro e w' ⟨rfl, ⟨nd, rfl⟩⟩; (try first | exact ⟨rfl, _, World.drewN_drewN _ _ _⟩ | exact ⟨rfl, _, Eq.trans (World.drewN_drewN _ _ _) (congrArg (World.drewN _) (Nat.add_assoc _ _ _))⟩))); try go_wp2_with (first | (go_at_call 173; (with_reducible refine (date_within.calls a0_0 1970 40000 true _ A4.out).mono ?_); rintro e w' ⟨rfl, ⟨nd, rfl⟩⟩; (try first | exact ⟨rfl, _, World.drewN_drewN _ _ _⟩ | exact ⟨rfl, _, Eq.trans (World.drewN_drewN _ _ _) (congrArg (World.drewN _) (Nat.add_assoc _ _ _))⟩)) | (go_at_call 173; (with_reducible refine (date_within.calls a0_1 1 12 false _ A6.out).mono ?_); rintro e w' ⟨rfl, ⟨nd, rfl⟩⟩; (try first | exact ⟨rfl, _, World.drewN_drewN _ _ _⟩ | exact ⟨rfl, _, Eq.trans (World.drewN_drewN _ _ _) (congrArg (World.drewN _) (Nat.add_assoc _ _ _))⟩))))
    go_meet
    case rel => exact ⟨_, (true), eqs, H', omk, ⟨bkw BK294⟩, ⟨blw⟩⟩
  ·replace c5 := Bool.eq_false_iff.mpr c5
   subst c5
   rw [if_neg nft] at H
   have H' := Aside0.mk H
   clear H
   have hcz12_0 : w3.cell? ⟨gb294, 0, none⟩ = some (.int .i64 a0_0) := bk_ BK294
   have hcz12_1 : w3.cell? ⟨gb294, 1, none⟩ = some (.int .i64 a0_1) := bk_ BK294
   have hcz12_2 : w3.cell? ⟨gb294, 2, none⟩ = some (.int .i64 a0_2) := bk_ BK294
   have hcz12_3 : w3.cell? ⟨gb294, 3, none⟩ = some (.int .i64 a0_3) := bk_ BK294
   have hcz12_4 : w3.cell? ⟨gb294, 4, none⟩ = some (.int .i64 a0_4) := bk_ BK294
   have hcz12_5 : w3.cell? ⟨gb294, 5, none⟩ = some (.int .i64 a0_5) := bk_ BK294
   have hcz12_6 : w3.cell? ⟨gb294, 6, none⟩ = some (.int .i64 a0_6) := bk_ BK294
   have hfz12_0 := blk_frozen BK294.out 0
   have hfz12_1 := blk_frozen BK294.out 1
   have hfz12_2 := blk_frozen BK294.out 2
   have hfz12_3 := blk_frozen BK294.out 3
   have hfz12_4 := blk_frozen BK294.out 4
   have hfz12_5 := blk_frozen BK294.out 5
   have hfz12_6 := blk_frozen BK294.out 6
   go_wp2_with (first | (go_at_call 173; (with_reducible refine (date_within.calls a0_0 1970 40000 false _ A4.out).mono ?_); rintro e w' ⟨rfl, ⟨nd, rfl⟩⟩; (try first | exact ⟨rfl, _, World.drewN_drewN _ _ _⟩ | exact ⟨rfl, _, Eq.trans (World.drewN_drewN _ _ _) (congrArg (World.drewN _) (Nat.add_assoc _ _ _))⟩)))
   repeat (go_quiet (first | (go_at_call 173; (with_reducible refine (date_within.calls a0_0 1970 40000 false _ A4.out).mono ?_); rintro e w' ⟨rfl, ⟨nd, rfl⟩⟩; (try first | exact ⟨rfl, _, World.drewN_drewN _ _ _⟩ | exact ⟨rfl, _, Eq.trans (World.drewN_drewN _ _ _) (congrArg (World.drewN _) (Nat.add_assoc _ _ _))⟩))); try go_wp2_with (first | (go_at_call 173; (with_reducible refine (date_within.calls a0_0 1970 40000 false _ A4.out).mono ?_); rintro e w' ⟨rfl, ⟨nd, rfl⟩⟩; (try first | exact ⟨rfl, _, World.drewN_drewN _ _ _⟩ | exact ⟨rfl, _, Eq.trans (World.drewN_drewN _ _ _) (congrArg (World.drewN _) (Nat.add_assoc _ _ _))⟩))))
   go_meet
   case rel => exact ⟨_, (true), eqs, H', omk, ⟨bkw BK294⟩, ⟨blw⟩⟩
 case rest =>
  clear HC2
  try clear c1
  try clear p2
  try clear c5
  try clear c7
  try clear hcz10_0 hcz10_1 hcz10_2 hcz10_3 hcz10_4 hcz10_5 hcz10_6
  try clear hcz11_0 hcz11_1 hcz11_2 hcz11_3 hcz11_4 hcz11_5 hcz11_6
  try clear hcz12_0 hcz12_1 hcz12_2 hcz12_3 hcz12_4 hcz12_5 hcz12_6
  try clear hfz10_0 hfz10_1 hfz10_2 hfz10_3 hfz10_4 hfz10_5 hfz10_6
  try clear hfz11_0 hfz11_1 hfz11_2 hfz11_3 hfz11_4 hfz11_5 hfz11_6
  try clear hfz12_0 hfz12_1 hfz12_2 hfz12_3 hfz12_4 hfz12_5 hfz12_6
  obtain ⟨kq, x26_1, rfl, HA, HJ1, BK294, HB⟩ := hcut
  cases kq with
  | zero => exact absurd HA.out (by simp [date_Number.j0])
  | succ kj1 =>
   have H := HA.out
   clear HA
   simp only [date_Number.j0] at H
   by_cases c13 : x26_1 = true
   ·subst c13
    rw [if_pos rfl] at H
    simp only [Option.some.injEq, Prod.mk.injEq] at H
    obtain ⟨rfl, rfl⟩ := H
    go_wp2
    repeat (go_quiet (fail); try go_wp2)
    go_ret2
    exact ⟨by first | rfl | (simp [errW_none, errW_some] <;> rfl) | (simp [*, errW_none, errW_some] <;> rfl), blw⟩
   ·replace c13 := Bool.eq_false_iff.mpr c13
    subst c13
    rw [if_neg nft] at H
    have HC14 := Aside0.mk H
    clear H
    go_upto_region 3 with (fail)
    repeat (go_quiet (fail); go_upto_region 3 with (fail))
    go_cut [42] (fun v42 wc => ∃ (kq : Nat) (x42_13 : Bool), v42 = .bool x42_13 ∧ Aside0 (date_Number.j1 kq x42_13 a0_0 a0_1 a0_2 a0_3 a0_4 a0_5 a0_6 = some (r1, r2)) ∧ Aside0 (kq ≤ kj1) ∧ Aside0 (wc.heap[gb294]? = some (.cells #[.int .i64 a0_0, .int .i64 a0_1, .int .i64 a0_2, .int .i64 a0_3, .int .i64 a0_4, .int .i64 a0_5, .int .i64 a0_6] 67 (0, 0))) ∧ Aside0 (Below w.heap.size w wc))
    case first =>
     have H := HC14.out
     clear HC14
     replace H := Option.bind_eq_some_iff.mp H
     obtain ⟨t299, A150, H⟩ := H
     try dsimp only at H
     have A15 := Aside0.mk A150
     clear A150
     by_cases c16 : t299 = true
     ·subst c16
      rw [if_pos rfl] at H
      replace H := Option.bind_eq_some_iff.mp H
      obtain ⟨t300, A170, H⟩ := H
      try dsimp only at H
      have A17 := Aside0.mk A170
      clear A170
      by_cases c18 : t300 = true
      ·subst c18
       rw [if_pos rfl] at H
       replace H := Option.bind_eq_some_iff.mp H
       obtain ⟨t301, A190, H⟩ := H
       try dsimp only at H
       have A19 := Aside0.mk A190
       clear A190
       have H' := Aside0.mk H
       clear H
       have hcz20_0 : wc.cell? ⟨gb294, 0, none⟩ = some (.int .i64 a0_0) := bk_ BK294
       have hcz20_1 : wc.cell? ⟨gb294, 1, none⟩ = some (.int .i64 a0_1) := bk_ BK294
       have hcz20_2 : wc.cell? ⟨gb294, 2, none⟩ = some (.int .i64 a0_2) := bk_ BK294
       have hcz20_3 : wc.cell? ⟨gb294, 3, none⟩ = some (.int .i64 a0_3) := bk_ BK294
       have hcz20_4 : wc.cell? ⟨gb294, 4, none⟩ = some (.int .i64 a0_4) := bk_ BK294
       have hcz20_5 : wc.cell? ⟨gb294, 5, none⟩ = some (.int .i64 a0_5) := bk_ BK294
       have hcz20_6 : wc.cell? ⟨gb294, 6, none⟩ = some (.int .i64 a0_6) := bk_ BK294
       have hfz20_0 := blk_frozen BK294.out 0
       have hfz20_1 := blk_frozen BK294.out 1
       have hfz20_2 := blk_frozen BK294.out 2
       have hfz20_3 := blk_frozen BK294.out 3
       have hfz20_4 := blk_frozen BK294.out 4
       have hfz20_5 := blk_frozen BK294.out 5
       have hfz20_6 := blk_frozen BK294.out 6
       go_wp2_with (first | (go_at_call 173; (with_reducible refine (date_within.calls a0_3 0 23 true _ A15.out).mono ?_); rintro e w' ⟨rfl, ⟨nd, rfl⟩⟩; (try first | exact ⟨rfl, _, World.drewN_drewN _ _ _⟩ | exact ⟨rfl, _, Eq.trans (World.drewN_drewN _ _ _) (congrArg (World.drewN _) (Nat.add_assoc _ _ _))⟩)) | (go_at_call 173; (with_reducible refine (date_within.calls a0_4 0 59 true _ A17.out).mono ?_); rintro e w' ⟨rfl, ⟨nd, rfl⟩⟩; (try first | exact ⟨rfl, _, World.drewN_drewN _ _ _⟩ | exact ⟨rfl, _, Eq.trans (World.drewN_drewN _ _ _) (congrArg (World.drewN _) (Nat.add_assoc _ _ _))⟩)) | (go_at_call 173; (with_reducible refine (date_within.calls a0_5 0 59 t301 _ A19.out).mono ?_); rintro e w' ⟨rfl, ⟨nd, rfl⟩⟩; (try first | exact ⟨rfl, _, World.drewN_drewN _ _ _⟩ | exact ⟨rfl, _, Eq.trans (World.drewN_drewN _ _ _) (congrArg (World.drewN _) (Nat.add_assoc _ _ _))⟩)))
       repeat (go_quiet (first | (go_at_call 173; (with_reducible refine (date_within.calls a0_3 0 23 true _ A15.out).mono ?_); rintro e w' ⟨rfl, ⟨nd, rfl⟩⟩; (try first | exact ⟨rfl, _, World.drewN_drewN _ _ _⟩ | exact ⟨rfl, _, Eq.trans (World.drewN_drewN _ _ _) (congrArg (World.drewN _) (Nat.add_assoc _ _ _))⟩)) | (go_at_call 173; (with_reducible refine (date_within.calls a0_4 0 59 true _ A17.out).mono ?_); rintro e w' ⟨rfl, ⟨nd, rfl⟩⟩; (try first | exact ⟨rfl, _, World.drewN_drewN _ _ _⟩ | exact ⟨rfl, _, Eq.trans (World.drewN_drewN _ _ _) (congrArg (World.drewN _) (Nat.add_assoc _ _ _))⟩)) | (go_at_call 173; (with_reducible refine (date_within.calls a0_5 0 59 t301 _ A19.out).mono ?_); rintro e w' ⟨rfl, ⟨nd, rfl⟩⟩; (try first | exact ⟨rfl, _, World.drewN_drewN _ _ _⟩ | exact ⟨rfl, _, Eq.trans (World.drewN_drewN _ _ _) (congrArg (World.drewN _) (Nat.add_assoc _ _ _))⟩))); try go_wp2_with (first | (go_at_call 173; (with_reducible refine (date_within.calls a0_3 0 23 true _ A15.out).mono ?_); rintro e w' ⟨rfl, ⟨nd, rfl⟩⟩; (try first | exact ⟨rfl, _, World.drewN_drewN _ _ _⟩ | exact ⟨rfl, _, Eq.trans (World.drewN_drewN _ _ _) (congrArg (World.drewN _) (Nat.add_assoc _ _ _))⟩)) | (go_at_call 173; (with_reducible refine (date_within.calls a0_4 0 59 true _ A17.out).mono ?_); rintro e w' ⟨rfl, ⟨nd, rfl⟩⟩; (try first | exact ⟨rfl, _, World.drewN_drewN _ _ _⟩ | exact ⟨rfl, _, Eq.trans (World.drewN_drewN _ _ _) (congrArg (World.drewN _) (Nat.add_assoc _ _ _))⟩)) | (go_at_call 173; (with_reducible refine (date_within.calls a0_5 0 59 t301 _ A19.out).mono ?_); rintro e w' ⟨rfl, ⟨nd, rfl⟩⟩; (try first | exact ⟨rfl, _, World.drewN_drewN _ _ _⟩ | exact ⟨rfl, _, Eq.trans (World.drewN_drewN _ _ _) (congrArg (World.drewN _) (Nat.add_assoc _ _ _))⟩))))
       go_meet
       case rel => exact ⟨_, (!t301), eqs, H', ⟨by have := HJ1.out; first | omega | exact Nat.le_refl _⟩, ⟨bkw BK294⟩, ⟨blw⟩⟩
      ·replace c18 := Bool.eq_false_iff.mpr c18
       subst c18
       rw [if_neg nft] at H
       have H' := Aside0.mk H
       clear H
       have hcz21_0 : wc.cell? ⟨gb294, 0, none⟩ = some (.int .i64 a0_0) := bk_ BK294
       have hcz21_1 : wc.cell? ⟨gb294, 1, none⟩ = some (.int .i64 a0_1) := bk_ BK294
       have hcz21_2 : wc.cell? ⟨gb294, 2, none⟩ = some (.int .i64 a0_2) := bk_ BK294
       have hcz21_3 : wc.cell? ⟨gb294, 3, none⟩ = some (.int .i64 a0_3) := bk_ BK294
       have hcz21_4 : wc.cell? ⟨gb294, 4, none⟩ = some (.int .i64 a0_4) := bk_ BK294
       have hcz21_5 : wc.cell? ⟨gb294, 5, none⟩ = some (.int .i64 a0_5) := bk_ BK294
       have hcz21_6 : wc.cell? ⟨gb294, 6, none⟩ = some (.int .i64 a0_6) := bk_ BK294
       have hfz21_0 := blk_frozen BK294.out 0
       have hfz21_1 := blk_frozen BK294.out 1
       have hfz21_2 := blk_frozen BK294.out 2
       have hfz21_3 := blk_frozen BK294.out 3
       have hfz21_4 := blk_frozen BK294.out 4
       have hfz21_5 := blk_frozen BK294.out 5
       have hfz21_6 := blk_frozen BK294.out 6
       go_wp2_with (first | (go_at_call 173; (with_reducible refine (date_within.calls a0_3 0 23 true _ A15.out).mono ?_); rintro e w' ⟨rfl, ⟨nd, rfl⟩⟩; (try first | exact ⟨rfl, _, World.drewN_drewN _ _ _⟩ | exact ⟨rfl, _, Eq.trans (World.drewN_drewN _ _ _) (congrArg (World.drewN _) (Nat.add_assoc _ _ _))⟩)) | (go_at_call 173; (with_reducible refine (date_within.calls a0_4 0 59 false _ A17.out).mono ?_); rintro e w' ⟨rfl, ⟨nd, rfl⟩⟩; (try first | exact ⟨rfl, _, World.drewN_drewN _ _ _⟩ | exact ⟨rfl, _, Eq.trans (World.drewN_drewN _ _ _) (congrArg (World.drewN _) (Nat.add_assoc _ _ _))⟩)))
       repeat (go_quiet (first | (go_at_call 173; (with_reducible refine (date_within.calls a0_3 0 23 true _ A15.out).mono ?_); rintro e w' ⟨rfl, ⟨nd, rfl⟩⟩; (try first | exact ⟨rfl, _, World.drewN_drewN _ _ _⟩ | exact ⟨rfl, _, Eq.trans (World.drewN_drewN _ _ _) (congrArg (World.drewN _) (Nat.add_assoc _ _ _))⟩)) | (go_at_call 173; (with_reducible refine (date_within.calls a0_4 0 59 false _ A17.out).mono ?_); rintro e w' ⟨rfl, ⟨nd, rfl⟩⟩; (try first | exact ⟨rfl, _, World.drewN_drewN _ _ _⟩ | exact ⟨rfl, _, Eq.trans (World.drewN_drewN _ _ _) (congrArg (World.drewN _) (Nat.add_assoc _ _ _))⟩))); try go_wp2_with (first | (go_at_call 173; (with_reducible refine (date_within.calls a0_3 0 23 true _ A15.out).mono ?_); rintro e w' ⟨rfl, ⟨nd, rfl⟩⟩; (try first | exact ⟨rfl, _, World.drewN_drewN _ _ _⟩ | exact ⟨rfl, _, Eq.trans (World.drewN_drewN _ _ _) (congrArg (World.drewN _) (Nat.add_assoc _ _ _))⟩)) | (go_at_call 173; (with_reducible refine (date_within.calls a0_4 0 59 false _ A17.out).mono ?_); rintro e w' ⟨rfl, ⟨nd, rfl⟩⟩; (try first | exact ⟨rfl, _, World.drewN_drewN _ _ _⟩ | exact ⟨rfl, _, Eq.trans (World.drewN_drewN _ _ _) (congrArg (World.drewN _) (Nat.add_assoc _ _ _))⟩))))
       go_meet
       case rel => exact ⟨_, (true), eqs, H', ⟨by have := HJ1.out; first | omega | exact Nat.le_refl _⟩, ⟨bkw BK294⟩, ⟨blw⟩⟩
     ·replace c16 := Bool.eq_false_iff.mpr c16
      subst c16
      rw [if_neg nft] at H
      have H' := Aside0.mk H
      clear H
      have hcz22_0 : wc.cell? ⟨gb294, 0, none⟩ = some (.int .i64 a0_0) := bk_ BK294
      have hcz22_1 : wc.cell? ⟨gb294, 1, none⟩ = some (.int .i64 a0_1) := bk_ BK294
      have hcz22_2 : wc.cell? ⟨gb294, 2, none⟩ = some (.int .i64 a0_2) := bk_ BK294
      have hcz22_3 : wc.cell? ⟨gb294, 3, none⟩ = some (.int .i64 a0_3) := bk_ BK294
      have hcz22_4 : wc.cell? ⟨gb294, 4, none⟩ = some (.int .i64 a0_4) := bk_ BK294
      have hcz22_5 : wc.cell? ⟨gb294, 5, none⟩ = some (.int .i64 a0_5) := bk_ BK294
      have hcz22_6 : wc.cell? ⟨gb294, 6, none⟩ = some (.int .i64 a0_6) := bk_ BK294
      have hfz22_0 := blk_frozen BK294.out 0
      have hfz22_1 := blk_frozen BK294.out 1
      have hfz22_2 := blk_frozen BK294.out 2
      have hfz22_3 := blk_frozen BK294.out 3
      have hfz22_4 := blk_frozen BK294.out 4
      have hfz22_5 := blk_frozen BK294.out 5
      have hfz22_6 := blk_frozen BK294.out 6
      go_wp2_with (first | (go_at_call 173; (with_reducible refine (date_within.calls a0_3 0 23 false _ A15.out).mono ?_); rintro e w' ⟨rfl, ⟨nd, rfl⟩⟩; (try first | exact ⟨rfl, _, World.drewN_drewN _ _ _⟩ | exact ⟨rfl, _, Eq.trans (World.drewN_drewN _ _ _) (congrArg (World.drewN _) (Nat.add_assoc _ _ _))⟩)))
      repeat (go_quiet (first | (go_at_call 173; (with_reducible refine (date_within.calls a0_3 0 23 false _ A15.out).mono ?_); rintro e w' ⟨rfl, ⟨nd, rfl⟩⟩; (try first | exact ⟨rfl, _, World.drewN_drewN _ _ _⟩ | exact ⟨rfl, _, Eq.trans (World.drewN_drewN _ _ _) (congrArg (World.drewN _) (Nat.add_assoc _ _ _))⟩))); try go_wp2_with (first | (go_at_call 173; (with_reducible refine (date_within.calls a0_3 0 23 false _ A15.out).mono ?_); rintro e w' ⟨rfl, ⟨nd, rfl⟩⟩; (try first | exact ⟨rfl, _, World.drewN_drewN _ _ _⟩ | exact ⟨rfl, _, Eq.trans (World.drewN_drewN _ _ _) (congrArg (World.drewN _) (Nat.add_assoc _ _ _))⟩))))
      go_meet
      case rel => exact ⟨_, (true), eqs, H', ⟨by have := HJ1.out; first | omega | exact Nat.le_refl _⟩, ⟨bkw BK294⟩, ⟨blw⟩⟩
    case rest =>
     clear HC14
     try clear c1
     try clear p2
     try clear c5
     try clear c7
     try clear c13
     try clear c15
     try clear c16
     try clear c18
     try clear hcz10_0 hcz10_1 hcz10_2 hcz10_3 hcz10_4 hcz10_5 hcz10_6
     try clear hcz11_0 hcz11_1 hcz11_2 hcz11_3 hcz11_4 hcz11_5 hcz11_6
     try clear hcz12_0 hcz12_1 hcz12_2 hcz12_3 hcz12_4 hcz12_5 hcz12_6
     try clear hcz20_0 hcz20_1 hcz20_2 hcz20_3 hcz20_4 hcz20_5 hcz20_6
     try clear hcz21_0 hcz21_1 hcz21_2 hcz21_3 hcz21_4 hcz21_5 hcz21_6
     try clear hcz22_0 hcz22_1 hcz22_2 hcz22_3 hcz22_4 hcz22_5 hcz22_6
     try clear hfz10_0 hfz10_1 hfz10_2 hfz10_3 hfz10_4 hfz10_5 hfz10_6
     try clear hfz11_0 hfz11_1 hfz11_2 hfz11_3 hfz11_4 hfz11_5 hfz11_6
     try clear hfz12_0 hfz12_1 hfz12_2 hfz12_3 hfz12_4 hfz12_5 hfz12_6
     try clear hfz20_0 hfz20_1 hfz20_2 hfz20_3 hfz20_4 hfz20_5 hfz20_6
     try clear hfz21_0 hfz21_1 hfz21_2 hfz21_3 hfz21_4 hfz21_5 hfz21_6
     try clear hfz22_0 hfz22_1 hfz22_2 hfz22_3 hfz22_4 hfz22_5 hfz22_6
     try clear p2
     obtain ⟨kq, x42_13, rfl, HA, HJ13, BK294, HB⟩ := hcut
     cases kq with
     | zero => exact absurd HA.out (by simp [date_Number.j1])
     | succ kj13 =>
      have H := HA.out
      clear HA
      simp only [date_Number.j1] at H
      by_cases c23 : x42_13 = true
      ·subst c23
       rw [if_pos rfl] at H
       simp only [Option.some.injEq, Prod.mk.injEq] at H
       obtain ⟨rfl, rfl⟩ := H
       go_wp2
       repeat (go_quiet (fail); try go_wp2)
       go_ret2
       exact ⟨by first | rfl | (simp [errW_none, errW_some] <;> rfl) | (simp [*, errW_none, errW_some] <;> rfl), blw⟩
      ·replace c23 := Bool.eq_false_iff.mpr c23
       subst c23
       rw [if_neg nft] at H
       replace H := Option.bind_eq_some_iff.mp H
       obtain ⟨t302, A240, H⟩ := H
       try dsimp only at H
       have A24 := Aside0.mk A240
       clear A240
       replace H := Option.bind_eq_some_iff.mp H
       obtain ⟨t303, A250, H⟩ := H
       try dsimp only at H
       have A25 := Aside0.mk A250
       clear A250
       replace H := Option.bind_eq_some_iff.mp H
       obtain ⟨t304, A260, H⟩ := H
       try dsimp only at H
       have A26 := Aside0.mk A260
       clear A260
       replace H := Option.bind_eq_some_iff.mp H
       obtain ⟨t305, A270, H⟩ := H
       try dsimp only at H
       have A27 := Aside0.mk A270
       clear A270
       by_cases c28 : t305 = true
       ·subst c28
        rw [if_pos rfl] at H
        simp only [Option.some.injEq, Prod.mk.injEq] at H
        obtain ⟨rfl, rfl⟩ := H
        have hcz29_0 : wc.cell? ⟨gb294, 0, none⟩ = some (.int .i64 a0_0) := bk_ BK294
        have hcz29_1 : wc.cell? ⟨gb294, 1, none⟩ = some (.int .i64 a0_1) := bk_ BK294
        have hcz29_2 : wc.cell? ⟨gb294, 2, none⟩ = some (.int .i64 a0_2) := bk_ BK294
        have hcz29_3 : wc.cell? ⟨gb294, 3, none⟩ = some (.int .i64 a0_3) := bk_ BK294
        have hcz29_4 : wc.cell? ⟨gb294, 4, none⟩ = some (.int .i64 a0_4) := bk_ BK294
        have hcz29_5 : wc.cell? ⟨gb294, 5, none⟩ = some (.int .i64 a0_5) := bk_ BK294
        have hcz29_6 : wc.cell? ⟨gb294, 6, none⟩ = some (.int .i64 a0_6) := bk_ BK294
        have hfz29_0 := blk_frozen BK294.out 0
        have hfz29_1 := blk_frozen BK294.out 1
        have hfz29_2 := blk_frozen BK294.out 2
        have hfz29_3 := blk_frozen BK294.out 3
        have hfz29_4 := blk_frozen BK294.out 4
        have hfz29_5 := blk_frozen BK294.out 5
        have hfz29_6 := blk_frozen BK294.out 6
        go_wp2_with (first | (go_at_call 115; (with_reducible refine (date_years.calls a0_0 t302 _ A24.out).mono ?_); rintro e w' ⟨rfl, ⟨nd, rfl⟩⟩; (try first | exact ⟨rfl, _, World.drewN_drewN _ _ _⟩ | exact ⟨rfl, _, Eq.trans (World.drewN_drewN _ _ _) (congrArg (World.drewN _) (Nat.add_assoc _ _ _))⟩)) | (go_at_call 115; (with_reducible refine (date_years.calls 1970 t303 _ A25.out).mono ?_); rintro e w' ⟨rfl, ⟨nd, rfl⟩⟩; (try first | exact ⟨rfl, _, World.drewN_drewN _ _ _⟩ | exact ⟨rfl, _, Eq.trans (World.drewN_drewN _ _ _) (congrArg (World.drewN _) (Nat.add_assoc _ _ _))⟩)) | (go_at_call 116; (with_reducible refine (date_gone.calls a0_0 a0_1 t304 _ ?side1 A26.out).mono ?_); (case side1 => exact Amb.at HG.out blw); rintro e w' ⟨rfl, ⟨nd, rfl⟩⟩; (try first | exact ⟨rfl, _, World.drewN_drewN _ _ _⟩ | exact ⟨rfl, _, Eq.trans (World.drewN_drewN _ _ _) (congrArg (World.drewN _) (Nat.add_assoc _ _ _))⟩)) | (go_at_call 63; (with_reducible refine (date_moment.calls (wrap64 ((wrap64 ((wrap64 ((wrap64 ((wrap64 ((wrap64 ((wrap64 ((wrap64 (t302 - t303)) + t304)) + a0_2)) - 1)) * 86400)) + (wrap64 (a0_3 * 3600)))) + (wrap64 (a0_4 * 60)))) + a0_5)) true _ A27.out).mono ?_); rintro e w' ⟨rfl, ⟨nd, rfl⟩⟩; (try first | exact ⟨rfl, _, World.drewN_drewN _ _ _⟩ | exact ⟨rfl, _, Eq.trans (World.drewN_drewN _ _ _) (congrArg (World.drewN _) (Nat.add_assoc _ _ _))⟩)))
        repeat (go_quiet (first | (go_at_call 115; (with_reducible refine (date_years.calls a0_0 t302 _ A24.out).mono ?_); rintro e w' ⟨rfl, ⟨nd, rfl⟩⟩; (try first | exact ⟨rfl, _, World.drewN_drewN _ _ _⟩ | exact ⟨rfl, _, Eq.trans (World.drewN_drewN _ _ _) (congrArg (World.drewN _) (Nat.add_assoc _ _ _))⟩)) | (go_at_call 115; (with_reducible refine (date_years.calls 1970 t303 _ A25.out).mono ?_); rintro e w' ⟨rfl, ⟨nd, rfl⟩⟩; (try first | exact ⟨rfl, _, World.drewN_drewN _ _ _⟩ | exact ⟨rfl, _, Eq.trans (World.drewN_drewN _ _ _) (congrArg (World.drewN _) (Nat.add_assoc _ _ _))⟩)) | (go_at_call 116; (with_reducible refine (date_gone.calls a0_0 a0_1 t304 _ ?side1 A26.out).mono ?_); (case side1 => exact Amb.at HG.out blw); rintro e w' ⟨rfl, ⟨nd, rfl⟩⟩; (try first | exact ⟨rfl, _, World.drewN_drewN _ _ _⟩ | exact ⟨rfl, _, Eq.trans (World.drewN_drewN _ _ _) (congrArg (World.drewN _) (Nat.add_assoc _ _ _))⟩)) | (go_at_call 63; (with_reducible refine (date_moment.calls (wrap64 ((wrap64 ((wrap64 ((wrap64 ((wrap64 ((wrap64 ((wrap64 ((wrap64 (t302 - t303)) + t304)) + a0_2)) - 1)) * 86400)) + (wrap64 (a0_3 * 3600)))) + (wrap64 (a0_4 * 60)))) + a0_5)) true _ A27.out).mono ?_); rintro e w' ⟨rfl, ⟨nd, rfl⟩⟩; (try first | exact ⟨rfl, _, World.drewN_drewN _ _ _⟩ | exact ⟨rfl, _, Eq.trans (World.drewN_drewN _ _ _) (congrArg (World.drewN _) (Nat.add_assoc _ _ _))⟩))); try go_wp2_with (first | (go_at_call 115; (with_reducible refine (date_years.calls a0_0 t302 _ A24.out).mono ?_); rintro e w' ⟨rfl, ⟨nd, rfl⟩⟩; (try first | exact ⟨rfl, _, World.drewN_drewN _ _ _⟩ | exact ⟨rfl, _, Eq.trans (World.drewN_drewN _ _ _) (congrArg (World.drewN _) (Nat.add_assoc _ _ _))⟩)) | (go_at_call 115; (with_reducible refine (date_years.calls 1970 t303 _ A25.out).mono ?_); rintro e w' ⟨rfl, ⟨nd, rfl⟩⟩; (try first | exact ⟨rfl, _, World.drewN_drewN _ _ _⟩ | exact ⟨rfl, _, Eq.trans (World.drewN_drewN _ _ _) (congrArg (World.drewN _) (Nat.add_assoc _ _ _))⟩)) | (go_at_call 116; (with_reducible refine (date_gone.calls a0_0 a0_1 t304 _ ?side1 A26.out).mono ?_); (case side1 => exact Amb.at HG.out blw); rintro e w' ⟨rfl, ⟨nd, rfl⟩⟩; (try first | exact ⟨rfl, _, World.drewN_drewN _ _ _⟩ | exact ⟨rfl, _, Eq.trans (World.drewN_drewN _ _ _) (congrArg (World.drewN _) (Nat.add_assoc _ _ _))⟩)) | (go_at_call 63; (with_reducible refine (date_moment.calls (wrap64 ((wrap64 ((wrap64 ((wrap64 ((wrap64 ((wrap64 ((wrap64 ((wrap64 (t302 - t303)) + t304)) + a0_2)) - 1)) * 86400)) + (wrap64 (a0_3 * 3600)))) + (wrap64 (a0_4 * 60)))) + a0_5)) true _ A27.out).mono ?_); rintro e w' ⟨rfl, ⟨nd, rfl⟩⟩; (try first | exact ⟨rfl, _, World.drewN_drewN _ _ _⟩ | exact ⟨rfl, _, Eq.trans (World.drewN_drewN _ _ _) (congrArg (World.drewN _) (Nat.add_assoc _ _ _))⟩))))
        go_ret2
        exact ⟨by first | rfl | (simp [errW_none, errW_some] <;> rfl) | (simp [*, errW_none, errW_some] <;> rfl), blw⟩
       ·replace c28 := Bool.eq_false_iff.mpr c28
        subst c28
        rw [if_neg nft] at H
        simp only [Option.some.injEq, Prod.mk.injEq] at H
        obtain ⟨rfl, rfl⟩ := H
        have hcz30_0 : wc.cell? ⟨gb294, 0, none⟩ = some (.int .i64 a0_0) := bk_ BK294
        have hcz30_1 : wc.cell? ⟨gb294, 1, none⟩ = some (.int .i64 a0_1) := bk_ BK294
        have hcz30_2 : wc.cell? ⟨gb294, 2, none⟩ = some (.int .i64 a0_2) := bk_ BK294
        have hcz30_3 : wc.cell? ⟨gb294, 3, none⟩ = some (.int .i64 a0_3) := bk_ BK294
        have hcz30_4 : wc.cell? ⟨gb294, 4, none⟩ = some (.int .i64 a0_4) := bk_ BK294
        have hcz30_5 : wc.cell? ⟨gb294, 5, none⟩ = some (.int .i64 a0_5) := bk_ BK294
        have hcz30_6 : wc.cell? ⟨gb294, 6, none⟩ = some (.int .i64 a0_6) := bk_ BK294
        have hfz30_0 := blk_frozen BK294.out 0
        have hfz30_1 := blk_frozen BK294.out 1
        have hfz30_2 := blk_frozen BK294.out 2
        have hfz30_3 := blk_frozen BK294.out 3
        have hfz30_4 := blk_frozen BK294.out 4
        have hfz30_5 := blk_frozen BK294.out 5
        have hfz30_6 := blk_frozen BK294.out 6
        go_wp2_with (first | (go_at_call 115; (with_reducible refine (date_years.calls a0_0 t302 _ A24.out).mono ?_); rintro e w' ⟨rfl, ⟨nd, rfl⟩⟩; (try first | exact ⟨rfl, _, World.drewN_drewN _ _ _⟩ | exact ⟨rfl, _, Eq.trans (World.drewN_drewN _ _ _) (congrArg (World.drewN _) (Nat.add_assoc _ _ _))⟩)) | (go_at_call 115; (with_reducible refine (date_years.calls 1970 t303 _ A25.out).mono ?_); rintro e w' ⟨rfl, ⟨nd, rfl⟩⟩; (try first | exact ⟨rfl, _, World.drewN_drewN _ _ _⟩ | exact ⟨rfl, _, Eq.trans (World.drewN_drewN _ _ _) (congrArg (World.drewN _) (Nat.add_assoc _ _ _))⟩)) | (go_at_call 116; (with_reducible refine (date_gone.calls a0_0 a0_1 t304 _ ?side1 A26.out).mono ?_); (case side1 => exact Amb.at HG.out blw); rintro e w' ⟨rfl, ⟨nd, rfl⟩⟩; (try first | exact ⟨rfl, _, World.drewN_drewN _ _ _⟩ | exact ⟨rfl, _, Eq.trans (World.drewN_drewN _ _ _) (congrArg (World.drewN _) (Nat.add_assoc _ _ _))⟩)) | (go_at_call 63; (with_reducible refine (date_moment.calls (wrap64 ((wrap64 ((wrap64 ((wrap64 ((wrap64 ((wrap64 ((wrap64 ((wrap64 (t302 - t303)) + t304)) + a0_2)) - 1)) * 86400)) + (wrap64 (a0_3 * 3600)))) + (wrap64 (a0_4 * 60)))) + a0_5)) false _ A27.out).mono ?_); rintro e w' ⟨rfl, ⟨nd, rfl⟩⟩; (try first | exact ⟨rfl, _, World.drewN_drewN _ _ _⟩ | exact ⟨rfl, _, Eq.trans (World.drewN_drewN _ _ _) (congrArg (World.drewN _) (Nat.add_assoc _ _ _))⟩)))
        repeat (go_quiet (first | (go_at_call 115; (with_reducible refine (date_years.calls a0_0 t302 _ A24.out).mono ?_); rintro e w' ⟨rfl, ⟨nd, rfl⟩⟩; (try first | exact ⟨rfl, _, World.drewN_drewN _ _ _⟩ | exact ⟨rfl, _, Eq.trans (World.drewN_drewN _ _ _) (congrArg (World.drewN _) (Nat.add_assoc _ _ _))⟩)) | (go_at_call 115; (with_reducible refine (date_years.calls 1970 t303 _ A25.out).mono ?_); rintro e w' ⟨rfl, ⟨nd, rfl⟩⟩; (try first | exact ⟨rfl, _, World.drewN_drewN _ _ _⟩ | exact ⟨rfl, _, Eq.trans (World.drewN_drewN _ _ _) (congrArg (World.drewN _) (Nat.add_assoc _ _ _))⟩)) | (go_at_call 116; (with_reducible refine (date_gone.calls a0_0 a0_1 t304 _ ?side1 A26.out).mono ?_); (case side1 => exact Amb.at HG.out blw); rintro e w' ⟨rfl, ⟨nd, rfl⟩⟩; (try first | exact ⟨rfl, _, World.drewN_drewN _ _ _⟩ | exact ⟨rfl, _, Eq.trans (World.drewN_drewN _ _ _) (congrArg (World.drewN _) (Nat.add_assoc _ _ _))⟩)) | (go_at_call 63; (with_reducible refine (date_moment.calls (wrap64 ((wrap64 ((wrap64 ((wrap64 ((wrap64 ((wrap64 ((wrap64 ((wrap64 (t302 - t303)) + t304)) + a0_2)) - 1)) * 86400)) + (wrap64 (a0_3 * 3600)))) + (wrap64 (a0_4 * 60)))) + a0_5)) false _ A27.out).mono ?_); rintro e w' ⟨rfl, ⟨nd, rfl⟩⟩; (try first | exact ⟨rfl, _, World.drewN_drewN _ _ _⟩ | exact ⟨rfl, _, Eq.trans (World.drewN_drewN _ _ _) (congrArg (World.drewN _) (Nat.add_assoc _ _ _))⟩))); try go_wp2_with (first | (go_at_call 115; (with_reducible refine (date_years.calls a0_0 t302 _ A24.out).mono ?_); rintro e w' ⟨rfl, ⟨nd, rfl⟩⟩; (try first | exact ⟨rfl, _, World.drewN_drewN _ _ _⟩ | exact ⟨rfl, _, Eq.trans (World.drewN_drewN _ _ _) (congrArg (World.drewN _) (Nat.add_assoc _ _ _))⟩)) | (go_at_call 115; (with_reducible refine (date_years.calls 1970 t303 _ A25.out).mono ?_); rintro e w' ⟨rfl, ⟨nd, rfl⟩⟩; (try first | exact ⟨rfl, _, World.drewN_drewN _ _ _⟩ | exact ⟨rfl, _, Eq.trans (World.drewN_drewN _ _ _) (congrArg (World.drewN _) (Nat.add_assoc _ _ _))⟩)) | (go_at_call 116; (with_reducible refine (date_gone.calls a0_0 a0_1 t304 _ ?side1 A26.out).mono ?_); (case side1 => exact Amb.at HG.out blw); rintro e w' ⟨rfl, ⟨nd, rfl⟩⟩; (try first | exact ⟨rfl, _, World.drewN_drewN _ _ _⟩ | exact ⟨rfl, _, Eq.trans (World.drewN_drewN _ _ _) (congrArg (World.drewN _) (Nat.add_assoc _ _ _))⟩)) | (go_at_call 63; (with_reducible refine (date_moment.calls (wrap64 ((wrap64 ((wrap64 ((wrap64 ((wrap64 ((wrap64 ((wrap64 ((wrap64 (t302 - t303)) + t304)) + a0_2)) - 1)) * 86400)) + (wrap64 (a0_3 * 3600)))) + (wrap64 (a0_4 * 60)))) + a0_5)) false _ A27.out).mono ?_); rintro e w' ⟨rfl, ⟨nd, rfl⟩⟩; (try first | exact ⟨rfl, _, World.drewN_drewN _ _ _⟩ | exact ⟨rfl, _, Eq.trans (World.drewN_drewN _ _ _) (congrArg (World.drewN _) (Nat.add_assoc _ _ _))⟩))))
        go_ret2
        exact ⟨by first | rfl | (simp [errW_none, errW_some] <;> rfl) | (simp [*, errW_none, errW_some] <;> rfl), blw⟩

end Go.Proofs.YtcpmoolpbeeedaaGreatDoor.Q
