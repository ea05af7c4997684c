-- Written by a program of this session (wip/myprint) out of the translation, for YtcpmoolpbeeedaaGreatDoor.
import Derived.Test.YtcpmoolpbeeedaaGreatDoorQ0
import Derived.Test.YtcpmoolpbeeedaaGreatDoorQ22
namespace Go.Proofs.YtcpmoolpbeeedaaGreatDoor.Q
open Go.RowKit Go.Proofs.YtcpmoolpbeeedaaGreatDoorW.PrintWords Go.Proofs.YtcpmoolpbeeedaaGreatDoorW.PrintLast Go.Proofs.YtcpmoolpbeeedaaGreatDoorW.PrintMore Go.Proofs.YtcpmoolpbeeedaaGreatDoorW.PrintSq
attribute [local go_sem] max2_int min2_int max_two min_two max_three min_three max_four min_four   -- for this text's walks alone
set_option linter.unusedVariables false
set_option linter.unusedSimpArgs false

/-! ### bulletinref22_Line: function 34 -/
def bulletinref22_Line.j0 : Nat → ByteArray → Int → Int → Int → Int → Int → Int → Int → Option (ByteArray)
  | 0, _, _, _, _, _, _, _, _ => none
  | k + 1, x5, x459000, x459001, x459002, x459003, x459004, x459005, x459006 => (bulletinref22_Week.f x459006).bind fun t460 => (if t460.size + 1 ≤ 9223372036854775807 then ((bulletinref22_Month.f x459001).bind fun t461 => (if t460.size + 1 + t461.size ≤ 9223372036854775807 then (if t460.size + 1 + t461.size + 1 ≤ 9223372036854775807 then (if t460.size + 1 + t461.size + 1 + x5.size ≤ 9223372036854775807 then (if t460.size + 1 + t461.size + 1 + x5.size + 1 ≤ 9223372036854775807 then ((bulletinref22_clock.f k x459000 x459001 x459002 x459003 x459004 x459005 x459006).bind fun t462 => (if t460.size + 1 + t461.size + 1 + x5.size + 1 + t462.size ≤ 9223372036854775807 then (if t460.size + 1 + t461.size + 1 + x5.size + 1 + t462.size + 1 ≤ 9223372036854775807 then ((bulletinref01_Digits.f k x459000).bind fun t463 => (if t460.size + 1 + t461.size + 1 + x5.size + 1 + t462.size + 1 + t463.size ≤ 9223372036854775807 then (some ((((((((t460 ++ (⟨#[32]⟩ : ByteArray)) ++ t461) ++ (⟨#[32]⟩ : ByteArray)) ++ x5) ++ (⟨#[32]⟩ : ByteArray)) ++ t462) ++ (⟨#[32]⟩ : ByteArray)) ++ t463)) else (none))) else (none)) else (none))) else (none)) else (none)) else (none)) else (none))) else (none))
def bulletinref22_Line.f (k : Nat) (a0 : Int) : Option (ByteArray) := (bulletinref22_Of.f k a0).bind fun bt450 => (if bt450.2.2.2.2.2.2.2 = true then ((bulletinref01_Digits.f k bt450.2.2.1).bind fun t459 => (if (t459.size : Int) = 1 then (if 1 + t459.size ≤ 9223372036854775807 then (bulletinref22_Line.j0 k ((⟨#[32]⟩ : ByteArray) ++ t459) bt450.1 bt450.2.1 bt450.2.2.1 bt450.2.2.2.1 bt450.2.2.2.2.1 bt450.2.2.2.2.2.1 bt450.2.2.2.2.2.2.1) else (none)) else (bulletinref22_Line.j0 k t459 bt450.1 bt450.2.1 bt450.2.2.1 bt450.2.2.2.1 bt450.2.2.2.2.1 bt450.2.2.2.2.2.1 bt450.2.2.2.2.2.2.1))) else (some (⟨#[]⟩ : ByteArray)))
theorem bulletinref22_Line.mono_l : ∀ k, (∀ y0 y1 y2 y3 y4 y5 y6 y7, LeO (bulletinref22_Line.j0 k y0 y1 y2 y3 y4 y5 y6 y7) (bulletinref22_Line.j0 (k + 1) y0 y1 y2 y3 y4 y5 y6 y7))
  | 0 => fun _ _ _ _ _ _ _ _ r h => by simp [bulletinref22_Line.j0] at h
  | k + 1 => by
    have ih0 := bulletinref22_Line.mono_l k
    · intro y0 y1 y2 y3 y4 y5 y6 y7
      unfold bulletinref22_Line.j0
      repeat' first | (with_reducible first | exact ih0 _ _ _ _ _ _ _ _ | exact bulletinref01_Digits.mono _ _ | exact bulletinref22_Of.mono _ _ | exact bulletinref22_clock.mono _ _ _ _ _ _ _ _ | exact LeO.refl _ | exact LeO.none _ | refine LeO.ite ?_ ?_ | refine LeO.bind ?_ (fun _ => ?_)) | exact ih0 _ _ _ _ _ _ _ _ | exact bulletinref01_Digits.mono _ _ | exact bulletinref22_Of.mono _ _ | exact bulletinref22_clock.mono _ _ _ _ _ _ _ _ | exact LeO.none _ | refine LeO.ite ?_ ?_ | refine LeO.bind ?_ (fun _ => ?_)
theorem bulletinref22_Line.mono : ∀ a0 k, LeO (bulletinref22_Line.f k a0) (bulletinref22_Line.f (k + 1) a0) := by
  intro a0 k
  have ih0 := bulletinref22_Line.mono_l k
  unfold bulletinref22_Line.f
  repeat' first | (with_reducible first | exact ih0 _ _ _ _ _ _ _ _ | exact bulletinref01_Digits.mono _ _ | exact bulletinref22_Of.mono _ _ | exact bulletinref22_clock.mono _ _ _ _ _ _ _ _ | exact LeO.refl _ | exact LeO.none _ | refine LeO.ite ?_ ?_ | refine LeO.bind ?_ (fun _ => ?_)) | exact ih0 _ _ _ _ _ _ _ _ | exact bulletinref01_Digits.mono _ _ | exact bulletinref22_Of.mono _ _ | exact bulletinref22_clock.mono _ _ _ _ _ _ _ _ | exact LeO.none _ | refine LeO.ite ?_ ?_ | refine LeO.bind ?_ (fun _ => ?_)
def bulletinref22_Line.T7 : Bool × List (List Nat × List Nat) := (true, [([], []), ([0], [0]), ([1], [1]), ([2], [2]), ([], []), ([4], [4]), ([5, 2], [5]), ([3, 6], [3, 6]), ([7], [7]), ([], []), ([8, 9], [8, 9]), ([10], [10]), ([], []), ([12, 6], [12]), ([11, 13], [11, 13]), ([14], [14]), ([], []), ([16], [16]), ([17, 13], [17]), ([15, 18], [15, 18]), ([19, 18, 0, 1, 2, 3, 4, 5, 6, 7, 8, 9, 10, 11, 12, 13, 14, 15, 16, 17, 18, 19], [19])])
def bulletinref22_Line.B7 : List Nat := [0, 1, 3, 7, 0, 16, 55, 127, 255, 0, 1023, 2047, 0, 4215, 16383, 32767, 0, 65536, 209015, 524287, 1048575]
theorem bulletinref22_Line.tab7 : rtab .any (opsOf Tryz.f34 7) = bulletinref22_Line.T7 := by kernel_rfl
theorem bulletinref22_Line.bits7 : waitsOk bulletinref22_Line.T7.2 bulletinref22_Line.B7 = true := by kernel_rfl
set_option maxHeartbeats 8000000 in
set_option maxRecDepth 100000 in
theorem bulletinref22_Line.calls (k : Nat) (a0 : Int) (r : ByteArray) (w : World) (h : bulletinref22_Line.f k a0 = some r) :
    Calls Tryz.prog 34 #[.int .i64 a0] w fun e w' => e = .returned (.string r) ∧ Below w.heap.size w w' := by
 have hu73 := Tryz.underlying73
 have HB := Aside0.mk (Below.refl w.heap.size w)
 unfold bulletinref22_Line.f at h
 have H := h
 clear h
 replace H := Option.bind_eq_some_iff.mp H
 obtain ⟨⟨t450, t451, t452, t453, t454, t455, t456, t457⟩, A20, H⟩ := H
 try dsimp only at H
 have A2 := Aside0.mk A20
 clear A20
 by_cases c3 : t457 = true
 ·subst c3
  rw [if_pos rfl] at H
  replace H := Option.bind_eq_some_iff.mp H
  obtain ⟨t459, A40, H⟩ := H
  try dsimp only at H
  have A4 := Aside0.mk A40
  clear A40
  have HC5 := Aside0.mk H
  clear H
  go_enter Tryz.func34, Tryz.ntmps34
  go_upto_if 18 with (first | ((with_reducible refine gc 56 rfl ?_); refine cl_ (some 8) Tryz.func56 (bulletinref22_Of.calls k a0 t450 t451 t452 t453 t454 t455 t456 true _ A2.out) ?_; rintro w6 hb; replace HB := Aside0.mk (below_step blw hb); (try clear hb)) | ((with_reducible refine gate_dst (N := 3) rfl ?_); refine box_event ?hg (N := 3) ?hd (cs := #[.int .i64 0, .int .i64 0, .int .i64 0, .int .i64 0, .int .i64 0, .int .i64 0, .int .i64 0]) (t := 73) ?hr ?_; (case hd => rfl); (case hg => rfl); (case hr => first | (go_simp; done) | (go_simp; rfl)); intro gb458 hg w7 hbox hb; have BK458 := Aside0.mk (hbox); have GW458 : Aside0 (w.heap.size ≤ gb458) := gw_ hg; have GE458 : Aside0 (w.heap.size ≤ gb458) := gw_ hg; replace HB := Aside0.mk (below_step blw hb); clear hb hbox hg; have hcz8_0 : w7.cell? ⟨gb458, 0, none⟩ = some (.int .i64 0) := bk_ BK458; have hcz8_1 : w7.cell? ⟨gb458, 1, none⟩ = some (.int .i64 0) := bk_ BK458; have hcz8_2 : w7.cell? ⟨gb458, 2, none⟩ = some (.int .i64 0) := bk_ BK458; have hcz8_3 : w7.cell? ⟨gb458, 3, none⟩ = some (.int .i64 0) := bk_ BK458; have hcz8_4 : w7.cell? ⟨gb458, 4, none⟩ = some (.int .i64 0) := bk_ BK458; have hcz8_5 : w7.cell? ⟨gb458, 5, none⟩ = some (.int .i64 0) := bk_ BK458; have hcz8_6 : w7.cell? ⟨gb458, 6, none⟩ = some (.int .i64 0) := bk_ BK458; have hfz8_0 := blk_frozen BK458.out 0; have hfz8_1 := blk_frozen BK458.out 1; have hfz8_2 := blk_frozen BK458.out 2; have hfz8_3 := blk_frozen BK458.out 3; have hfz8_4 := blk_frozen BK458.out 4; have hfz8_5 := blk_frozen BK458.out 5; have hfz8_6 := blk_frozen BK458.out 6) | ((with_reducible refine gc 57 rfl ?_); refine cl_ (some 15) Tryz.func57 (bulletinref01_Digits.calls k t452 t459 _ A4.out) ?_; rintro w9 hb; replace BK458 := Aside0.mk (blk_below (g := gb458) (o := .cells #[.int .i64 t450, .int .i64 t451, .int .i64 t452, .int .i64 t453, .int .i64 t454, .int .i64 t455, .int .i64 t456] 73 (0, 0)) (by (with_reducible repeat (first | refine blk_drewN ?_ _ | refine blk_drew ?_ | refine blk_alloc ?_ _)); refine blk_put (cs := #[.int .i64 t450, .int .i64 t451, .int .i64 t452, .int .i64 t453, .int .i64 t454, .int .i64 t455, .int .i64 0]) ?_ 6 _ rfl; (with_reducible repeat (first | refine blk_drewN ?_ _ | refine blk_drew ?_ | refine blk_alloc ?_ _)); refine blk_put (cs := #[.int .i64 t450, .int .i64 t451, .int .i64 t452, .int .i64 t453, .int .i64 t454, .int .i64 0, .int .i64 0]) ?_ 5 _ rfl; (with_reducible repeat (first | refine blk_drewN ?_ _ | refine blk_drew ?_ | refine blk_alloc ?_ _)); refine blk_put (cs := #[.int .i64 t450, .int .i64 t451, .int .i64 t452, .int .i64 t453, .int .i64 0, .int .i64 0, .int .i64 0]) ?_ 4 _ rfl; (with_reducible repeat (first | refine blk_drewN ?_ _ | refine blk_drew ?_ | refine blk_alloc ?_ _)); refine blk_put (cs := #[.int .i64 t450, .int .i64 t451, .int .i64 t452, .int .i64 0, .int .i64 0, .int .i64 0, .int .i64 0]) ?_ 3 _ rfl; (with_reducible repeat (first | refine blk_drewN ?_ _ | refine blk_drew ?_ | refine blk_alloc ?_ _)); refine blk_put (cs := #[.int .i64 t450, .int .i64 t451, .int .i64 0, .int .i64 0, .int .i64 0, .int .i64 0, .int .i64 0]) ?_ 2 _ rfl; (with_reducible repeat (first | refine blk_drewN ?_ _ | refine blk_drew ?_ | refine blk_alloc ?_ _)); refine blk_put (cs := #[.int .i64 t450, .int .i64 0, .int .i64 0, .int .i64 0, .int .i64 0, .int .i64 0, .int .i64 0]) ?_ 1 _ rfl; (with_reducible repeat (first | refine blk_drewN ?_ _ | refine blk_drew ?_ | refine blk_alloc ?_ _)); refine blk_put (cs := #[.int .i64 0, .int .i64 0, .int .i64 0, .int .i64 0, .int .i64 0, .int .i64 0, .int .i64 0]) ?_ 0 _ rfl; (with_reducible repeat (first | refine blk_drewN ?_ _ | refine blk_drew ?_ | refine blk_alloc ?_ _)); exact BK458.out) hb); replace HB := Aside0.mk (below_step blw hb); (try clear hb)))
  (try simp only [Act.put, List.setIfInBounds_toArray, List.set_cons_zero, List.set_cons_succ])
  go_cut [5] (fun v5 wc => ∃ (kq : Nat) (x5_4 : ByteArray), v5 = .string x5_4 ∧ Aside0 (bulletinref22_Line.j0 kq x5_4 t450 t451 t452 t453 t454 t455 t456 = some r) ∧ Aside0 (kq ≤ k) ∧ Aside0 (wc.heap[gb458]? = some (.cells #[.int .i64 t450, .int .i64 t451, .int .i64 t452, .int .i64 t453, .int .i64 t454, .int .i64 t455, .int .i64 t456] 73 (0, 0))) ∧ Aside0 (Below w.heap.size w wc))
  case first =>
   have H := HC5.out
   clear HC5
   by_cases c10 : (t459.size : Int) = 1
   ·rw [if_pos c10] at H
    have c10b0 := beq_iff_eq.mpr c10
    have c10b1 := bne_eq_false_iff_eq.mpr c10
    clear c10
    (first | rw [c10b0] | (simp only [i64_w, i32_w]; rw [c10b0]) | skip)
    obtain ⟨c11, H⟩ := iteS H
    have c11b0 := eq_true c11
    have c11b1 := decide_eq_true c11
    try have c11b2 := eq_false (Nat.not_lt.2 c11)
    have H' := Aside0.mk H
    clear H
    go_wp2
    go_meet
    case rel => exact ⟨_, ((⟨#[32]⟩ : ByteArray) ++ t459), eqs, H', omk, ⟨bkw BK458⟩, ⟨blw⟩⟩
   ·rw [if_neg c10] at H
    have c10b0 := beq_eq_false_iff_ne.mpr c10
    have c10b1 := bne_iff_ne.mpr c10
    (first | rw [c10b0] | (simp only [i64_w, i32_w]; rw [c10b0]) | skip)
    have H' := Aside0.mk H
    clear H
    go_wp2
    go_meet
    case rel => exact ⟨_, (t459), eqs, H', omk, ⟨bkw BK458⟩, ⟨blw⟩⟩
  case rest =>
   clear HC5
   try clear c1
   try clear p2
   try clear c3
   try clear c5
   try clear c10
   try clear c10b0
   try clear c10b1
   try clear c11
   try clear c11b0
   try clear c11b1
   try clear c11b2
   try clear hcz8_0 hcz8_1 hcz8_2 hcz8_3 hcz8_4 hcz8_5 hcz8_6
   try clear hfz8_0 hfz8_1 hfz8_2 hfz8_3 hfz8_4 hfz8_5 hfz8_6
   obtain ⟨kq, x5_4, rfl, HA, HJ4, BK458, HB⟩ := hcut
   cases kq with
   | zero => exact absurd HA.out (by simp [bulletinref22_Line.j0])
   | succ kj4 =>
    have H := HA.out
    clear HA
    simp only [bulletinref22_Line.j0] at H
    replace H := Option.bind_eq_some_iff.mp H
    obtain ⟨t460, A120, H⟩ := H
    try dsimp only at H
    have A12 := Aside0.mk A120
    clear A120
    obtain ⟨c13, H⟩ := iteS H
    have c13b0 := eq_true c13
    have c13b1 := decide_eq_true c13
    try have c13b2 := eq_false (Nat.not_lt.2 c13)
    replace H := Option.bind_eq_some_iff.mp H
    obtain ⟨t461, A140, H⟩ := H
    try dsimp only at H
    have A14 := Aside0.mk A140
    clear A140
    obtain ⟨c15, H⟩ := iteS H
    have c15b0 := eq_true c15
    have c15b1 := decide_eq_true c15
    try have c15b2 := eq_false (Nat.not_lt.2 c15)
    obtain ⟨c16, H⟩ := iteS H
    have c16b0 := eq_true c16
    have c16b1 := decide_eq_true c16
    try have c16b2 := eq_false (Nat.not_lt.2 c16)
    obtain ⟨c17, H⟩ := iteS H
    have c17b0 := eq_true c17
    have c17b1 := decide_eq_true c17
    try have c17b2 := eq_false (Nat.not_lt.2 c17)
    obtain ⟨c18, H⟩ := iteS H
    have c18b0 := eq_true c18
    have c18b1 := decide_eq_true c18
    try have c18b2 := eq_false (Nat.not_lt.2 c18)
    replace H := Option.bind_eq_some_iff.mp H
    obtain ⟨t462, A190, H⟩ := H
    try dsimp only at H
    have A19 := Aside0.mk A190
    clear A190
    obtain ⟨c20, H⟩ := iteS H
    have c20b0 := eq_true c20
    have c20b1 := decide_eq_true c20
    try have c20b2 := eq_false (Nat.not_lt.2 c20)
    obtain ⟨c21, H⟩ := iteS H
    have c21b0 := eq_true c21
    have c21b1 := decide_eq_true c21
    try have c21b2 := eq_false (Nat.not_lt.2 c21)
    replace H := Option.bind_eq_some_iff.mp H
    obtain ⟨t463, A220, H⟩ := H
    try dsimp only at H
    have A22 := Aside0.mk A220
    clear A220
    obtain ⟨c23, H⟩ := iteS H
    have c23b0 := eq_true c23
    have c23b1 := decide_eq_true c23
    try have c23b2 := eq_false (Nat.not_lt.2 c23)
    obtain rfl := Option.some.inj H
    try go_wp2
    replace BK458 := Aside0.mk (blk_drew BK458.out)
    replace HB := Aside0.mk (below_drew1 HB.out)
    refine start_ (n := 21) (S := fun w' => w'.cell? ⟨gb458, 0, none⟩ = some (.int .i64 t450) ∧ w'.cell? ⟨gb458, 1, none⟩ = some (.int .i64 t451) ∧ w'.cell? ⟨gb458, 2, none⟩ = some (.int .i64 t452) ∧ w'.cell? ⟨gb458, 3, none⟩ = some (.int .i64 t453) ∧ w'.cell? ⟨gb458, 4, none⟩ = some (.int .i64 t454) ∧ w'.cell? ⟨gb458, 5, none⟩ = some (.int .i64 t455) ∧ w'.cell? ⟨gb458, 6, none⟩ = some (.int .i64 t456)) (ds := []) (ba 21 0) (by kernel_rfl) rfl rfl ⟨bk_ BK458, bk_ BK458, bk_ BK458, bk_ BK458, bk_ BK458, bk_ BK458, bk_ BK458⟩ (fun hHeld => ?_); refine with_tabW bulletinref22_Line.tab7 bulletinref22_Line.bits7 (fun HT_ HW_ => ?_)
    generalize wc.drew = w24 at BK458 HB hHeld ⊢
    refine pu_ 0 21 1 ?_
    refine pu_ 4 25 17 ?_
    refine pu_ 9 30 529 ?_
    refine pu_ 16 37 66065 ?_
    refine tk_ 1 22 66067 hHeld ?_
    refine tk_ 5 26 66099 hHeld ?_
    refine tk_ 12 33 70195 hHeld ?_
    refine tk_ 17 38 201267 hHeld ?_
    refine one1 2 (some 23) 201271 (fun K hK => ?_)
    refine go1 Tryz.func58 #[.int .i64 t456] ?_
    with_reducible refine (bulletinref22_Week.calls t456 t460 _ A12.out).mono ?_
    rintro e w' ⟨rfl, ⟨nd, rfl⟩⟩
    refine ⟨_, rfl, ?_⟩
    refine hK.out _ _ ⟨bk_ BK458, bk_ BK458, bk_ BK458, bk_ BK458, bk_ BK458, bk_ BK458, bk_ BK458⟩ (fun hHeld => ?_)
    clear hK K
    refine nm_ (some 23) ?_
    refine pu_ 3 24 201279 ?_
    refine one1 6 (some 27) 201343 (fun K hK => ?_)
    refine go1 Tryz.func59 #[.int .i64 t451] ?_
    with_reducible refine (bulletinref22_Month.calls t451 t461 _ A14.out).mono ?_
    rintro e w' ⟨rfl, ⟨nd, rfl⟩⟩
    refine ⟨_, rfl, ?_⟩
    refine hK.out _ _ ⟨bk_ BK458, bk_ BK458, bk_ BK458, bk_ BK458, bk_ BK458, bk_ BK458, bk_ BK458⟩ (fun hHeld => ?_)
    clear hK K
    refine nm_ (some 27) ?_
    refine pu_ 7 28 201471 ?_
    refine pu_ 8 29 201727 ?_
    refine pu_ 10 31 202751 ?_
    refine pu_ 11 32 204799 ?_
    refine one1 13 (some 34) 212991 (fun K hK => ?_)
    refine go1 Tryz.func60 #[.agg #[.int .i64 t450, .int .i64 t451, .int .i64 t452, .int .i64 t453, .int .i64 t454, .int .i64 t455, .int .i64 t456]] ?_
    with_reducible refine (bulletinref22_clock.calls kj4 t450 t451 t452 t453 t454 t455 t456 t462 _ A19.out).mono ?_
    rintro e w25 ⟨rfl, hb⟩
    refine ⟨_, rfl, ?_⟩
    replace BK458 := Aside0.mk (blk_below (g := gb458) (o := .cells #[.int .i64 t450, .int .i64 t451, .int .i64 t452, .int .i64 t453, .int .i64 t454, .int .i64 t455, .int .i64 t456] 73 (0, 0)) (bkw BK458) hb)
    replace HB := Aside0.mk (below_step blw hb)
    (try clear hb)
    refine hK.out _ _ ⟨bk_ BK458, bk_ BK458, bk_ BK458, bk_ BK458, bk_ BK458, bk_ BK458, bk_ BK458⟩ (fun hHeld => ?_)
    clear hK K
    refine nm_ (some 34) ?_
    refine pu_ 14 35 229375 ?_
    refine pu_ 15 36 262143 ?_
    refine one1 18 (some 39) 524287 (fun K hK => ?_)
    refine go1 Tryz.func57 #[.int .i64 t450] ?_
    with_reducible refine (bulletinref01_Digits.calls kj4 t450 t463 _ A22.out).mono ?_
    rintro e w26 ⟨rfl, hb⟩
    refine ⟨_, rfl, ?_⟩
    replace BK458 := Aside0.mk (blk_below (g := gb458) (o := .cells #[.int .i64 t450, .int .i64 t451, .int .i64 t452, .int .i64 t453, .int .i64 t454, .int .i64 t455, .int .i64 t456] 73 (0, 0)) (bkw BK458) hb)
    replace HB := Aside0.mk (below_step blw hb)
    (try clear hb)
    refine hK.out _ _ ⟨bk_ BK458, bk_ BK458, bk_ BK458, bk_ BK458, bk_ BK458, bk_ BK458, bk_ BK458⟩ (fun hHeld => ?_)
    clear hK K
    refine nm_ (some 39) ?_
    refine pu_ 19 40 1048575 ?_
    refine pu_ 20 2 2097151 ?_
    refine done_ (done_of HT_.out (by kernel_rfl)) ?_
    try go_wp2
    go_ret
    exact ⟨by first | rfl | (simp [errW_none, errW_some] <;> rfl) | (simp [*, errW_none, errW_some] <;> rfl), blw⟩
 ·replace c3 := Bool.eq_false_iff.mpr c3
  subst c3
  rw [if_neg nft] at H
  obtain rfl := Option.some.inj H
  go_enter Tryz.func34, Tryz.ntmps34
  go_wp2_with (first | ((with_reducible refine gc 56 rfl ?_); refine cl_ (some 8) Tryz.func56 (bulletinref22_Of.calls k a0 t450 t451 t452 t453 t454 t455 t456 false _ A2.out) ?_; rintro w27 hb; replace HB := Aside0.mk (below_step blw hb); (try clear hb)) | ((with_reducible refine gate_dst (N := 3) rfl ?_); refine box_event ?hg (N := 3) ?hd (cs := #[.int .i64 0, .int .i64 0, .int .i64 0, .int .i64 0, .int .i64 0, .int .i64 0, .int .i64 0]) (t := 73) ?hr ?_; (case hd => rfl); (case hg => rfl); (case hr => first | (go_simp; done) | (go_simp; rfl)); intro gb458 hg w28 hbox hb; have BK458 := Aside0.mk (hbox); have GW458 : Aside0 (w.heap.size ≤ gb458) := gw_ hg; have GE458 : Aside0 (w.heap.size ≤ gb458) := gw_ hg; replace HB := Aside0.mk (below_step blw hb); clear hb hbox hg; have hcz29_0 : w28.cell? ⟨gb458, 0, none⟩ = some (.int .i64 0) := bk_ BK458; have hcz29_1 : w28.cell? ⟨gb458, 1, none⟩ = some (.int .i64 0) := bk_ BK458; have hcz29_2 : w28.cell? ⟨gb458, 2, none⟩ = some (.int .i64 0) := bk_ BK458; have hcz29_3 : w28.cell? ⟨gb458, 3, none⟩ = some (.int .i64 0) := bk_ BK458; have hcz29_4 : w28.cell? ⟨gb458, 4, none⟩ = some (.int .i64 0) := bk_ BK458; have hcz29_5 : w28.cell? ⟨gb458, 5, none⟩ = some (.int .i64 0) := bk_ BK458; have hcz29_6 : w28.cell? ⟨gb458, 6, none⟩ = some (.int .i64 0) := bk_ BK458; have hfz29_0 := blk_frozen BK458.out 0; have hfz29_1 := blk_frozen BK458.out 1; have hfz29_2 := blk_frozen BK458.out 2; have hfz29_3 := blk_frozen BK458.out 3; have hfz29_4 := blk_frozen BK458.out 4; have hfz29_5 := blk_frozen BK458.out 5; have hfz29_6 := blk_frozen BK458.out 6))
  go_ret
  exact ⟨by first | rfl | (simp [errW_none, errW_some] <;> rfl) | (simp [*, errW_none, errW_some] <;> rfl), blw⟩

/-! ### bulletinref23_ends: function 35 -/
def bulletinref23_ends.f (a0 : ByteArray) : Option (Bool) := if (a0.size : Int) ≥ 2 then (if 0 ≤ (wrap64 ((a0.size : Int) - 2)) then (if (wrap64 ((a0.size : Int) - 2)) ≤ (a0.size : Int) then (some ((a0.extract ((wrap64 ((a0.size : Int) - 2)) : Int).toNat a0.size).toList == ([13, 10] : List UInt8))) else (none)) else (none)) else (some false)
set_option maxHeartbeats 8000000 in
set_option maxRecDepth 100000 in
theorem bulletinref23_ends.calls (a0 : ByteArray) (r : Bool) (w : World) (h : bulletinref23_ends.f a0 = some r) :
    Calls Tryz.prog 35 #[.string a0] w fun e w' => e = .returned (.bool r) ∧ Drawn0 w w' := by
 unfold bulletinref23_ends.f at h
 have H := h
 clear h
 by_cases c2 : (a0.size : Int) ≥ 2
 ·rw [if_pos c2] at H
  have c2b0 : decide (2 ≤ (a0.size : Int)) = true := decide_eq_true c2
  have c2b1 : decide (2 ≤ a0.size) = true := decide_eq_true (by omega)
  clear c2
  obtain ⟨ji3, hji3⟩ : ∃ j_ : Int, (wrap64 ((a0.size : Int) - 2)) = j_ := ⟨_, rfl⟩
  replace H : (if 0 ≤ (ji3) then (if (ji3) ≤ (a0.size : Int) then (some ((a0.extract ((ji3) : Int).toNat a0.size).toList == ([13, 10] : List UInt8))) else (none)) else (none)) = some r := by first | (rw [hji3] at H; exact H) | (simp only [hji3] at H ⊢; exact H)
  have hji3w : (IntKind.i64.wrap ((a0.size : Int) - 2)) = ji3 := (i64_w _).trans hji3
  obtain ⟨c4, H⟩ := iteS H
  have c4b0 := eq_true c4
  have c4b1 := decide_eq_true c4
  clear c4
  obtain ⟨c5, H⟩ := iteS H
  have c5b0 := eq_true c5
  have c5b1 := decide_eq_true c5
  clear c5
  obtain rfl := Option.some.inj H
  go_enter Tryz.func35, Tryz.ntmps35
  go_wp2
  go_ret
  exact ⟨by first | rfl | (simp; done) | (simp only [← hji3] <;> (first | rfl | simp)) | (simp [*]; done), drw⟩
 ·rw [if_neg c2] at H
  have c2b0 : decide (2 ≤ (a0.size : Int)) = false := decide_eq_false c2
  have c2b1 : decide (2 ≤ a0.size) = false := decide_eq_false (by omega)
  clear c2
  obtain rfl := Option.some.inj H
  go_enter Tryz.func35, Tryz.ntmps35
  go_wp2
  go_ret
  exact ⟨eqs, drw⟩

end Go.Proofs.YtcpmoolpbeeedaaGreatDoor.Q
