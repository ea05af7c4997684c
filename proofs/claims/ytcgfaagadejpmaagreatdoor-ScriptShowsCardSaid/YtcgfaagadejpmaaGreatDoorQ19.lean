-- Written by a program of this session (wip/myprint) out of the translation, for YtcgfaagadejpmaaGreatDoor.
import Derived.Test.YtcgfaagadejpmaaGreatDoorQ0
import Derived.Test.YtcgfaagadejpmaaGreatDoorQ3
import Derived.Test.YtcgfaagadejpmaaGreatDoorQ4
import Derived.Test.YtcgfaagadejpmaaGreatDoorQ6
import Derived.Test.YtcgfaagadejpmaaGreatDoorQ15
import Derived.Test.YtcgfaagadejpmaaGreatDoorQ16
import Derived.Test.YtcgfaagadejpmaaGreatDoorQ17
import Derived.Test.YtcgfaagadejpmaaGreatDoorQ18
namespace Go.Proofs.YtcgfaagadejpmaaGreatDoor.Q
open Go.RowKit Go.Proofs.YtcgfaagadejpmaaGreatDoorW.PrintWords Go.Proofs.YtcgfaagadejpmaaGreatDoorW.PrintLast Go.Proofs.YtcgfaagadejpmaaGreatDoorW.PrintMore Go.Proofs.YtcgfaagadejpmaaGreatDoorW.PrintSq
attribute [local go_sem] max2_int min2_int max_two min_two max_three min_three max_four min_four   -- for this text's walks alone
set_option linter.unusedVariables false
set_option linter.unusedSimpArgs false

/-! ### bulletinlaw48_ScriptShows: function 3 -/
def bulletinlaw48_ScriptShows.j0 : Nat → ByteArray → Bool → Int → ByteArray → ByteArray → ByteArray → Int → Option (Bool)
  | 0, _, _, _, _, _, _, _ => none
  | k + 1, x1, x29, x335000, x335001, x335002, x335003, x335004 => if x29 = true then ((bulletinlaw48_works.f k).bind fun t335 => (some t335)) else ((script_Unescape.f k x1).bind fun bt336 => ((bulletinref48_Unescape.f k x1).bind fun bt338 => ((bulletinlaw48_To.f x335000 x335001 x335002 x335003 x335004).bind fun bt340 => ((script_Show.f k bt340.1 bt340.2.1 bt340.2.2.1 bt340.2.2.2.1 bt340.2.2.2.2).bind fun t345 => ((bulletinref48_Show.f k x335000 x335001 x335002 x335003 x335004).bind fun t346 => (if t345.toList = t346.toList then ((script_Escape.f x1).bind fun t347 => ((bulletinref48_Escape.f k x1).bind fun t348 => (if t347.toList = t348.toList then (if bt336.1.toList = bt338.1.toList then (if (bt336.2 == bt338.2) = true then ((bulletinlaw48_works.f k).bind fun t349 => (some t349)) else (none)) else (none)) else (none)))) else (none)))))))
def bulletinlaw48_ScriptShows.f (k : Nat) (a0_0 : Int) (a0_1 : ByteArray) (a0_2 : ByteArray) (a0_3 : ByteArray) (a0_4 : Int) (a1 : ByteArray) : Option (Bool) := if (a0_1.size : Int) > 500 then (bulletinlaw48_ScriptShows.j0 k a1 true a0_0 a0_1 a0_2 a0_3 a0_4) else (if (a0_2.size : Int) > 500 then (bulletinlaw48_ScriptShows.j0 k a1 true a0_0 a0_1 a0_2 a0_3 a0_4) else (if (a0_3.size : Int) > 500 then (bulletinlaw48_ScriptShows.j0 k a1 true a0_0 a0_1 a0_2 a0_3 a0_4) else (bulletinlaw48_ScriptShows.j0 k a1 (decide ((a1.size : Int) > 500)) a0_0 a0_1 a0_2 a0_3 a0_4)))
theorem bulletinlaw48_ScriptShows.mono_l : ∀ k, (∀ y0 y1 y2 y3 y4 y5 y6, LeO (bulletinlaw48_ScriptShows.j0 k y0 y1 y2 y3 y4 y5 y6) (bulletinlaw48_ScriptShows.j0 (k + 1) y0 y1 y2 y3 y4 y5 y6))
  | 0 => fun _ _ _ _ _ _ _ r h => by simp [bulletinlaw48_ScriptShows.j0] at h
  | k + 1 => by
    have ih0 := bulletinlaw48_ScriptShows.mono_l k
    · intro y0 y1 y2 y3 y4 y5 y6
      unfold bulletinlaw48_ScriptShows.j0
      repeat' first | (with_reducible first | exact ih0 _ _ _ _ _ _ _ | exact bulletinlaw48_works.mono _ | exact bulletinref48_Escape.mono _ _ | exact bulletinref48_Show.mono _ _ _ _ _ _ | exact bulletinref48_Unescape.mono _ _ | exact script_Show.mono _ _ _ _ _ _ | exact script_Unescape.mono _ _ | exact LeO.refl _ | exact LeO.none _ | refine LeO.ite ?_ ?_ | refine LeO.bind ?_ (fun _ => ?_)) | exact ih0 _ _ _ _ _ _ _ | exact bulletinlaw48_works.mono _ | exact bulletinref48_Escape.mono _ _ | exact bulletinref48_Show.mono _ _ _ _ _ _ | exact bulletinref48_Unescape.mono _ _ | exact script_Show.mono _ _ _ _ _ _ | exact script_Unescape.mono _ _ | exact LeO.none _ | refine LeO.ite ?_ ?_ | refine LeO.bind ?_ (fun _ => ?_)
theorem bulletinlaw48_ScriptShows.mono : ∀ a0 a1 a2 a3 a4 a5 k, LeO (bulletinlaw48_ScriptShows.f k a0 a1 a2 a3 a4 a5) (bulletinlaw48_ScriptShows.f (k + 1) a0 a1 a2 a3 a4 a5) := by
  intro a0 a1 a2 a3 a4 a5 k
  have ih0 := bulletinlaw48_ScriptShows.mono_l k
  unfold bulletinlaw48_ScriptShows.f
  repeat' first | (with_reducible first | exact ih0 _ _ _ _ _ _ _ | exact bulletinlaw48_works.mono _ | exact bulletinref48_Escape.mono _ _ | exact bulletinref48_Show.mono _ _ _ _ _ _ | exact bulletinref48_Unescape.mono _ _ | exact script_Show.mono _ _ _ _ _ _ | exact script_Unescape.mono _ _ | exact LeO.refl _ | exact LeO.none _ | refine LeO.ite ?_ ?_ | refine LeO.bind ?_ (fun _ => ?_)) | exact ih0 _ _ _ _ _ _ _ | exact bulletinlaw48_works.mono _ | exact bulletinref48_Escape.mono _ _ | exact bulletinref48_Show.mono _ _ _ _ _ _ | exact bulletinref48_Unescape.mono _ _ | exact script_Show.mono _ _ _ _ _ _ | exact script_Unescape.mono _ _ | exact LeO.none _ | refine LeO.ite ?_ ?_ | refine LeO.bind ?_ (fun _ => ?_)
def bulletinlaw48_ScriptShows.T5 : Bool × List (List Nat × List Nat) := (true, [([], []), ([0], [0]), ([1, 1], [1]), ([], []), ([3, 2], [3]), ([2, 4], [2, 4]), ([5, 4], [5]), ([6], [6]), ([7, 6, 6], [6, 7]), ([6], [6]), ([9, 8, 6], [6, 9]), ([8, 10, 6], [6, 8, 10]), ([6, 11], [6, 11]), ([12, 10], [12]), ([13], [13]), ([13], [13]), ([14, 15, 13], [13, 14, 15]), ([13, 16], [13, 16]), ([17, 13], [17]), ([18], [18]), ([18], [18]), ([19, 20, 18], [18, 19, 20]), ([18, 21], [18, 21]), ([22, 18], [22]), ([23, 23], [23]), ([23, 24], [23, 24]), ([25, 24, 0, 1, 2, 3, 4, 5, 6, 7, 8, 9, 10, 11, 12, 13, 14, 15, 16, 17, 18, 19, 20, 21, 22, 23, 24, 25], [25])])
def bulletinlaw48_ScriptShows.B5 : List Nat := [0, 1, 3, 0, 15, 31, 63, 127, 255, 127, 1023, 2047, 4095, 8191, 16383, 16383, 65535, 131071, 262143, 524287, 524287, 2097151, 4194303, 8388607, 16777215, 33554431, 67108863]
theorem bulletinlaw48_ScriptShows.tab5 : rtab .any (opsOf Tryz.f3 5) = bulletinlaw48_ScriptShows.T5 := by kernel_rfl
theorem bulletinlaw48_ScriptShows.bits5 : waitsOk bulletinlaw48_ScriptShows.T5.2 bulletinlaw48_ScriptShows.B5 = true := by kernel_rfl
set_option maxHeartbeats 8000000 in
set_option maxRecDepth 100000 in
theorem bulletinlaw48_ScriptShows.calls (k : Nat) (a0_0 : Int) (a0_1 : ByteArray) (a0_2 : ByteArray) (a0_3 : ByteArray) (a0_4 : Int) (a1 : ByteArray) (r : Bool) (w : World) (hG : Amb w) (h : bulletinlaw48_ScriptShows.f k a0_0 a0_1 a0_2 a0_3 a0_4 a1 = some r) :
    Calls Tryz.prog 3 #[.agg #[.int .i64 a0_0, .string a0_1, .string a0_2, .string a0_3, .int .i64 a0_4], .string a1] w fun e w' => e = .returned (.bool r) ∧ Below w.heap.size w w' := by
 have hu23 := Tryz.underlying23
 have HB := Aside0.mk (Below.refl w.heap.size w)
 unfold bulletinlaw48_ScriptShows.f at h
 have H := h
 clear h
 have HG := Aside0.mk hG
 clear hG
 have HC3 := Aside0.mk H
 clear H
 go_enter Tryz.func3, Tryz.ntmps3
 go_upto_region 1 with (first | ((with_reducible refine gate_dst (N := 2) rfl ?_); (try (refine gate_guard (by rfl) ?_; dsimp only)); refine box_event ?hg (N := 2) ?hd (cs := #[.int .i64 a0_0, .string a0_1, .string a0_2, .string a0_3, .int .i64 a0_4]) (t := 23) ?hr ?_; (case hd => rfl); (case hg => rfl); (case hr => first | (go_simp; done) | (go_simp; rfl)); intro gb334 hg w4 hbox hb; have BK334 := Aside0.mk (hbox); have GW334 : Aside0 (w.heap.size ≤ gb334) := gw_ hg; have GE334 : Aside0 (w.heap.size ≤ gb334) := gw_ hg; replace HB := Aside0.mk (below_step blw hb); clear hb hbox hg))
 (try simp only [Act.put, List.setIfInBounds_toArray, List.set_cons_zero, List.set_cons_succ])
 go_cut [29] (fun v29 wc => ∃ (kq : Nat) (x29_2 : Bool), v29 = .bool x29_2 ∧ Aside0 (bulletinlaw48_ScriptShows.j0 kq a1 x29_2 a0_0 a0_1 a0_2 a0_3 a0_4 = some r) ∧ Aside0 (kq ≤ k) ∧ Aside0 (wc.heap[gb334]? = some (.cells #[.int .i64 a0_0, .string a0_1, .string a0_2, .string a0_3, .int .i64 a0_4] 23 (0, 0))) ∧ Aside0 (Below w.heap.size w wc))
 case first =>
  have H := HC3.out
  clear HC3
  by_cases c5 : (a0_1.size : Int) > 500
  ·rw [if_pos c5] at H
   have c5b0 : decide (500 < (a0_1.size : Int)) = true := decide_eq_true c5
   have c5b1 : decide (500 < a0_1.size) = true := decide_eq_true (by omega)
   clear c5
   (first | rw [c5b0] | (simp only [i64_w, i32_w]; rw [c5b0]) | skip)
   have H' := Aside0.mk H
   clear H
   have hcz6_0 : w4.cell? ⟨gb334, 0, none⟩ = some (.int .i64 a0_0) := bk_ BK334
   have hcz6_1 : w4.cell? ⟨gb334, 1, none⟩ = some (.string a0_1) := bk_ BK334
   have hcz6_2 : w4.cell? ⟨gb334, 2, none⟩ = some (.string a0_2) := bk_ BK334
   have hcz6_3 : w4.cell? ⟨gb334, 3, none⟩ = some (.string a0_3) := bk_ BK334
   have hcz6_4 : w4.cell? ⟨gb334, 4, none⟩ = some (.int .i64 a0_4) := bk_ BK334
   have hfz6_0 := blk_frozen BK334.out 0
   have hfz6_1 := blk_frozen BK334.out 1
   have hfz6_2 := blk_frozen BK334.out 2
   have hfz6_3 := blk_frozen BK334.out 3
   have hfz6_4 := blk_frozen BK334.out 4
   go_wp2
   go_meet
   case rel => exact ⟨_, (true), eqs, H', omk, ⟨bkw BK334⟩, ⟨blw⟩⟩
  ·rw [if_neg c5] at H
   have c5b0 : decide (500 < (a0_1.size : Int)) = false := decide_eq_false c5
   have c5b1 : decide (500 < a0_1.size) = false := decide_eq_false (by omega)
   clear c5
   (first | rw [c5b0] | (simp only [i64_w, i32_w]; rw [c5b0]) | skip)
   by_cases c7 : (a0_2.size : Int) > 500
   ·rw [if_pos c7] at H
    have c7b0 : decide (500 < (a0_2.size : Int)) = true := decide_eq_true c7
    have c7b1 : decide (500 < a0_2.size) = true := decide_eq_true (by omega)
    clear c7
    have H' := Aside0.mk H
    clear H
    have hcz8_0 : w4.cell? ⟨gb334, 0, none⟩ = some (.int .i64 a0_0) := bk_ BK334
    have hcz8_1 : w4.cell? ⟨gb334, 1, none⟩ = some (.string a0_1) := bk_ BK334
    have hcz8_2 : w4.cell? ⟨gb334, 2, none⟩ = some (.string a0_2) := bk_ BK334
    have hcz8_3 : w4.cell? ⟨gb334, 3, none⟩ = some (.string a0_3) := bk_ BK334
    have hcz8_4 : w4.cell? ⟨gb334, 4, none⟩ = some (.int .i64 a0_4) := bk_ BK334
    have hfz8_0 := blk_frozen BK334.out 0
    have hfz8_1 := blk_frozen BK334.out 1
    have hfz8_2 := blk_frozen BK334.out 2
    have hfz8_3 := blk_frozen BK334.out 3
    have hfz8_4 := blk_frozen BK334.out 4
    go_wp2
    go_meet
    case rel => exact ⟨_, (true), eqs, H', omk, ⟨bkw BK334⟩, ⟨blw⟩⟩
   ·rw [if_neg c7] at H
    have c7b0 : decide (500 < (a0_2.size : Int)) = false := decide_eq_false c7
    have c7b1 : decide (500 < a0_2.size) = false := decide_eq_false (by omega)
    clear c7
    by_cases c9 : (a0_3.size : Int) > 500
    ·rw [if_pos c9] at H
     have c9b0 : decide (500 < (a0_3.size : Int)) = true := decide_eq_true c9
     have c9b1 : decide (500 < a0_3.size) = true := decide_eq_true (by omega)
     clear c9
     have H' := Aside0.mk H
     clear H
     have hcz10_0 : w4.cell? ⟨gb334, 0, none⟩ = some (.int .i64 a0_0) := bk_ BK334
     have hcz10_1 : w4.cell? ⟨gb334, 1, none⟩ = some (.string a0_1) := bk_ BK334
     have hcz10_2 : w4.cell? ⟨gb334, 2, none⟩ = some (.string a0_2) := bk_ BK334
     have hcz10_3 : w4.cell? ⟨gb334, 3, none⟩ = some (.string a0_3) := bk_ BK334
     have hcz10_4 : w4.cell? ⟨gb334, 4, none⟩ = some (.int .i64 a0_4) := bk_ BK334
     have hfz10_0 := blk_frozen BK334.out 0
     have hfz10_1 := blk_frozen BK334.out 1
     have hfz10_2 := blk_frozen BK334.out 2
     have hfz10_3 := blk_frozen BK334.out 3
     have hfz10_4 := blk_frozen BK334.out 4
     go_wp2
     go_meet
     case rel => exact ⟨_, (true), eqs, H', omk, ⟨bkw BK334⟩, ⟨blw⟩⟩
    ·rw [if_neg c9] at H
     have c9b0 : decide (500 < (a0_3.size : Int)) = false := decide_eq_false c9
     have c9b1 : decide (500 < a0_3.size) = false := decide_eq_false (by omega)
     clear c9
     have H' := Aside0.mk H
     clear H
     have hcz11_0 : w4.cell? ⟨gb334, 0, none⟩ = some (.int .i64 a0_0) := bk_ BK334
     have hcz11_1 : w4.cell? ⟨gb334, 1, none⟩ = some (.string a0_1) := bk_ BK334
     have hcz11_2 : w4.cell? ⟨gb334, 2, none⟩ = some (.string a0_2) := bk_ BK334
     have hcz11_3 : w4.cell? ⟨gb334, 3, none⟩ = some (.string a0_3) := bk_ BK334
     have hcz11_4 : w4.cell? ⟨gb334, 4, none⟩ = some (.int .i64 a0_4) := bk_ BK334
     have hfz11_0 := blk_frozen BK334.out 0
     have hfz11_1 := blk_frozen BK334.out 1
     have hfz11_2 := blk_frozen BK334.out 2
     have hfz11_3 := blk_frozen BK334.out 3
     have hfz11_4 := blk_frozen BK334.out 4
     go_wp2
     go_meet
     case rel => exact ⟨_, (decide ((a1.size : Int) > 500)), eqs, H', omk, ⟨bkw BK334⟩, ⟨blw⟩⟩
 case rest =>
  clear HC3
  try clear p2
  try clear c3
  try clear c5
  try clear c5b0
  try clear c5b1
  try clear c7
  try clear c7b0
  try clear c7b1
  try clear c9
  try clear c9b0
  try clear c9b1
  try clear hcz10_0 hcz10_1 hcz10_2 hcz10_3 hcz10_4
  try clear hcz11_0 hcz11_1 hcz11_2 hcz11_3 hcz11_4
  try clear hcz6_0 hcz6_1 hcz6_2 hcz6_3 hcz6_4
  try clear hcz8_0 hcz8_1 hcz8_2 hcz8_3 hcz8_4
  try clear hfz10_0 hfz10_1 hfz10_2 hfz10_3 hfz10_4
  try clear hfz11_0 hfz11_1 hfz11_2 hfz11_3 hfz11_4
  try clear hfz6_0 hfz6_1 hfz6_2 hfz6_3 hfz6_4
  try clear hfz8_0 hfz8_1 hfz8_2 hfz8_3 hfz8_4
  obtain ⟨kq, x29_2, rfl, HA, HJ2, BK334, HB⟩ := hcut
  cases kq with
  | zero => exact absurd HA.out (by simp [bulletinlaw48_ScriptShows.j0])
  | succ kj2 =>
   have H := HA.out
   clear HA
   simp only [bulletinlaw48_ScriptShows.j0] at H
   by_cases c12 : x29_2 = true
   ·subst c12
    rw [if_pos rfl] at H
    replace H := Option.bind_eq_some_iff.mp H
    obtain ⟨t335, A130, H⟩ := H
    try dsimp only at H
    have A13 := Aside0.mk A130
    clear A130
    obtain rfl := Option.some.inj H
    go_wp2_with (first | ((with_reducible refine gc 4 rfl ?_); refine cl_ (some 30) Tryz.func4 (bulletinlaw48_works.calls kj2  t335 _ (Amb.at HG.out blw) A13.out) ?_; rintro w14 hb; replace BK334 := Aside0.mk (blk_below (g := gb334) (o := .cells #[.int .i64 a0_0, .string a0_1, .string a0_2, .string a0_3, .int .i64 a0_4] 23 (0, 0)) (bkw BK334) hb); replace HB := Aside0.mk (below_step blw hb); (try clear hb)))
    go_ret
    exact ⟨by first | rfl | (simp [errW_none, errW_some] <;> rfl) | (simp [*, errW_none, errW_some] <;> rfl), blw⟩
   ·replace c12 := Bool.eq_false_iff.mpr c12
    subst c12
    rw [if_neg nft] at H
    replace H := Option.bind_eq_some_iff.mp H
    obtain ⟨⟨t336, t337⟩, A150, H⟩ := H
    try dsimp only at H
    have A15 := Aside0.mk A150
    clear A150
    replace H := Option.bind_eq_some_iff.mp H
    obtain ⟨⟨t338, t339⟩, A160, H⟩ := H
    try dsimp only at H
    have A16 := Aside0.mk A160
    clear A160
    replace H := Option.bind_eq_some_iff.mp H
    obtain ⟨⟨t340, t341, t342, t343, t344⟩, A170, H⟩ := H
    try dsimp only at H
    have A17 := Aside0.mk A170
    clear A170
    replace H := Option.bind_eq_some_iff.mp H
    obtain ⟨t345, A180, H⟩ := H
    try dsimp only at H
    have A18 := Aside0.mk A180
    clear A180
    replace H := Option.bind_eq_some_iff.mp H
    obtain ⟨t346, A190, H⟩ := H
    try dsimp only at H
    have A19 := Aside0.mk A190
    clear A190
    obtain ⟨c20, H⟩ := iteS H
    have c20b0 := beq_iff_eq.mpr c20
    have c20b1 := bne_eq_false_iff_eq.mpr c20
    clear c20
    replace H := Option.bind_eq_some_iff.mp H
    obtain ⟨t347, A210, H⟩ := H
    try dsimp only at H
    have A21 := Aside0.mk A210
    clear A210
    replace H := Option.bind_eq_some_iff.mp H
    obtain ⟨t348, A220, H⟩ := H
    try dsimp only at H
    have A22 := Aside0.mk A220
    clear A220
    obtain ⟨c23, H⟩ := iteS H
    have c23b0 := beq_iff_eq.mpr c23
    have c23b1 := bne_eq_false_iff_eq.mpr c23
    clear c23
    obtain ⟨c24, H⟩ := iteS H
    have c24b0 := beq_iff_eq.mpr c24
    have c24b1 := bne_eq_false_iff_eq.mpr c24
    clear c24
    obtain ⟨c25, H⟩ := iteS H
    have c25b0 : (t337 == t339) = true := c25
    (try (have c25b1 : decide (t337 = t339) = true := by simpa using c25))
    (try (have c25b2 : (t337 == t339) = true := by simpa using c25))
    clear c25
    replace H := Option.bind_eq_some_iff.mp H
    obtain ⟨t349, A260, H⟩ := H
    try dsimp only at H
    have A26 := Aside0.mk A260
    clear A260
    obtain rfl := Option.some.inj H
    try go_wp2_with (first | ((with_reducible refine gc 5 rfl ?_); refine cl_ (some 33) Tryz.func5 (script_Unescape.calls kj2 a1 t336 t337 _ A15.out) ?_; rintro w27 hb; replace BK334 := Aside0.mk (blk_below (g := gb334) (o := .cells #[.int .i64 a0_0, .string a0_1, .string a0_2, .string a0_3, .int .i64 a0_4] 23 (0, 0)) (bkw BK334) hb); replace HB := Aside0.mk (below_step blw hb); (try clear hb)) | ((with_reducible refine gc 6 rfl ?_); refine cl_ (some 38) Tryz.func6 (bulletinref48_Unescape.calls kj2 a1 t338 t339 _ A16.out) ?_; rintro w28 hb; replace BK334 := Aside0.mk (blk_below (g := gb334) (o := .cells #[.int .i64 a0_0, .string a0_1, .string a0_2, .string a0_3, .int .i64 a0_4] 23 (0, 0)) (bkw BK334) hb); replace HB := Aside0.mk (below_step blw hb); (try clear hb)))
    replace BK334 := Aside0.mk (blk_drew BK334.out)
    replace HB := Aside0.mk (below_drew1 HB.out)
    refine start_ (n := 27) (S := fun w' => w'.cell? ⟨gb334, 0, none⟩ = some (.int .i64 a0_0) ∧ w'.cell? ⟨gb334, 1, none⟩ = some (.string a0_1) ∧ w'.cell? ⟨gb334, 2, none⟩ = some (.string a0_2) ∧ w'.cell? ⟨gb334, 3, none⟩ = some (.string a0_3) ∧ w'.cell? ⟨gb334, 4, none⟩ = some (.int .i64 a0_4)) (ds := []) (ba 27 0) (by kernel_rfl) rfl rfl ⟨bk_ BK334, bk_ BK334, bk_ BK334, bk_ BK334, bk_ BK334⟩ (fun hHeld => ?_); refine with_tabW bulletinlaw48_ScriptShows.tab5 bulletinlaw48_ScriptShows.bits5 (fun HT_ HW_ => ?_)
    generalize w28.drew = w29 at BK334 HB hHeld ⊢
    refine tk_ 0 41 1 hHeld ?_
    refine tk_ 3 44 9 hHeld ?_
    refine one1 1 (some 42) 11 (fun K hK => ?_)
    refine go1 Tryz.func8 #[.agg #[.int .i64 a0_0, .string a0_1, .string a0_2, .string a0_3, .int .i64 a0_4]] ?_
    with_reducible refine (bulletinlaw48_To.calls a0_0 a0_1 a0_2 a0_3 a0_4 t340 t341 t342 t343 t344 _ A17.out).mono ?_
    rintro e w30 ⟨rfl, hb⟩
    refine ⟨_, rfl, ?_⟩
    replace BK334 := Aside0.mk (blk_below (g := gb334) (o := .cells #[.int .i64 a0_0, .string a0_1, .string a0_2, .string a0_3, .int .i64 a0_4] 23 (0, 0)) (bkw BK334) hb)
    replace HB := Aside0.mk (below_step blw hb)
    (try clear hb)
    refine hK.out _ _ ⟨bk_ BK334, bk_ BK334, bk_ BK334, bk_ BK334, bk_ BK334⟩ (fun hHeld => ?_)
    clear hK K
    refine nm_ (some 42) ?_
    refine one1 2 (some 43) 15 (fun K hK => ?_)
    refine go1 Tryz.func7 #[.agg #[.int .i64 t340, .string t341, .string t342, .string t343, .int .i64 t344]] ?_
    with_reducible refine (script_Show.calls kj2 t340 t341 t342 t343 t344 t345 _ ?side1 A18.out).mono ?_
    (case side1 => exact Amb.at HG.out blw)
    rintro e w31 ⟨rfl, hb⟩
    refine ⟨_, rfl, ?_⟩
    replace BK334 := Aside0.mk (blk_below (g := gb334) (o := .cells #[.int .i64 a0_0, .string a0_1, .string a0_2, .string a0_3, .int .i64 a0_4] 23 (0, 0)) (bkw BK334) hb)
    replace HB := Aside0.mk (below_step blw hb)
    (try clear hb)
    refine hK.out _ _ ⟨bk_ BK334, bk_ BK334, bk_ BK334, bk_ BK334, bk_ BK334⟩ (fun hHeld => ?_)
    clear hK K
    refine nm_ (some 43) ?_
    refine one1 4 (some 45) 31 (fun K hK => ?_)
    refine go1 Tryz.func9 #[.agg #[.int .i64 a0_0, .string a0_1, .string a0_2, .string a0_3, .int .i64 a0_4]] ?_
    with_reducible refine (bulletinref48_Show.calls kj2 a0_0 a0_1 a0_2 a0_3 a0_4 t346 _ A19.out).mono ?_
    rintro e w32 ⟨rfl, hb⟩
    refine ⟨_, rfl, ?_⟩
    replace BK334 := Aside0.mk (blk_below (g := gb334) (o := .cells #[.int .i64 a0_0, .string a0_1, .string a0_2, .string a0_3, .int .i64 a0_4] 23 (0, 0)) (bkw BK334) hb)
    replace HB := Aside0.mk (below_step blw hb)
    (try clear hb)
    refine hK.out _ _ ⟨bk_ BK334, bk_ BK334, bk_ BK334, bk_ BK334, bk_ BK334⟩ (fun hHeld => ?_)
    clear hK K
    refine nm_ (some 45) ?_
    refine pu_ 5 46 63 ?_
    refine pu_ 6 47 127 ?_
    refine pu_ 7 48 255 ?_
    refine pu_ 9 50 767 ?_
    refine one1 8 (some 49) 1023 (fun K hK => ?_)
    refine go1 Tryz.func10 #[.string a1] ?_
    with_reducible refine (script_Escape.calls a1 t347 _ A21.out).mono ?_
    rintro e w33 ⟨rfl, hb⟩
    refine ⟨_, rfl, ?_⟩
    replace BK334 := Aside0.mk (blk_below (g := gb334) (o := .cells #[.int .i64 a0_0, .string a0_1, .string a0_2, .string a0_3, .int .i64 a0_4] 23 (0, 0)) (bkw BK334) hb)
    replace HB := Aside0.mk (below_step blw hb)
    (try clear hb)
    refine hK.out _ _ ⟨bk_ BK334, bk_ BK334, bk_ BK334, bk_ BK334, bk_ BK334⟩ (fun hHeld => ?_)
    clear hK K
    refine nm_ (some 49) ?_
    refine one1 10 (some 51) 2047 (fun K hK => ?_)
    refine go1 Tryz.func11 #[.string a1] ?_
    with_reducible refine (bulletinref48_Escape.calls kj2 a1 t348 _ A22.out).mono ?_
    rintro e w' ⟨rfl, ⟨nd, rfl⟩⟩
    refine ⟨_, rfl, ?_⟩
    refine hK.out _ _ ⟨bk_ BK334, bk_ BK334, bk_ BK334, bk_ BK334, bk_ BK334⟩ (fun hHeld => ?_)
    clear hK K
    refine nm_ (some 51) ?_
    refine pu_ 11 52 4095 ?_
    refine pu_ 12 53 8191 ?_
    refine pu_ 13 54 16383 ?_
    refine pu_ 14 55 32767 ?_
    refine pu_ 15 56 65535 ?_
    refine pu_ 16 57 131071 ?_
    refine pu_ 17 58 262143 ?_
    refine pu_ 18 59 524287 ?_
    refine pu_ 19 60 1048575 ?_
    refine pu_ 20 61 2097151 ?_
    refine pu_ 21 62 4194303 ?_
    refine pu_ 22 63 8388607 ?_
    refine pu_ 23 64 16777215 ?_
    refine one1 24 (some 65) 33554431 (fun K hK => ?_)
    refine go1 Tryz.func4 #[] ?_
    with_reducible refine (bulletinlaw48_works.calls kj2  t349 _ ?side1 A26.out).mono ?_
    (case side1 => exact Amb.at HG.out blw)
    rintro e w34 ⟨rfl, hb⟩
    refine ⟨_, rfl, ?_⟩
    replace BK334 := Aside0.mk (blk_below (g := gb334) (o := .cells #[.int .i64 a0_0, .string a0_1, .string a0_2, .string a0_3, .int .i64 a0_4] 23 (0, 0)) (bkw BK334) hb)
    replace HB := Aside0.mk (below_step blw hb)
    (try clear hb)
    refine hK.out _ _ ⟨bk_ BK334, bk_ BK334, bk_ BK334, bk_ BK334, bk_ BK334⟩ (fun hHeld => ?_)
    clear hK K
    refine nm_ (some 65) ?_
    refine pu_ 25 66 67108863 ?_
    refine pu_ 26 4 134217727 ?_
    refine done_ (done_of HT_.out (by kernel_rfl)) ?_
    try go_wp2
    go_ret
    exact ⟨by first | rfl | (simp [errW_none, errW_some] <;> rfl) | (simp [*, errW_none, errW_some] <;> rfl), blw⟩

end Go.Proofs.YtcgfaagadejpmaaGreatDoor.Q
