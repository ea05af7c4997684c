-- Written by a program of this session (wip/myprint) out of the translation, for YtcpmoolpbeeedaaGreatDoor.
import Derived.Test.YtcpmoolpbeeedaaGreatDoorQ0
import Derived.Test.YtcpmoolpbeeedaaGreatDoorQ5
namespace Go.Proofs.YtcpmoolpbeeedaaGreatDoor.Q
open Go.RowKit Go.Proofs.YtcpmoolpbeeedaaGreatDoorW.PrintWords Go.Proofs.YtcpmoolpbeeedaaGreatDoorW.PrintLast Go.Proofs.YtcpmoolpbeeedaaGreatDoorW.PrintMore Go.Proofs.YtcpmoolpbeeedaaGreatDoorW.PrintSq
attribute [local go_sem] max2_int min2_int max_two min_two max_three min_three max_four min_four   -- for this text's walks alone
set_option linter.unusedVariables false
set_option linter.unusedSimpArgs false

/-! ### date_clock: function 52 -/
def date_clock.f (a0_0 : Int) (a0_1 : Int) (a0_2 : Int) (a0_3 : Int) (a0_4 : Int) (a0_5 : Int) (a0_6 : Int) : Option (ByteArray) := (date_two.f a0_3).bind fun t152 => (if t152.size + 1 ≤ 9223372036854775807 then ((date_two.f a0_4).bind fun t153 => (if t152.size + 1 + t153.size ≤ 9223372036854775807 then (if t152.size + 1 + t153.size + 1 ≤ 9223372036854775807 then ((date_two.f a0_5).bind fun t154 => (if t152.size + 1 + t153.size + 1 + t154.size ≤ 9223372036854775807 then (some ((((t152 ++ (⟨#[58]⟩ : ByteArray)) ++ t153) ++ (⟨#[58]⟩ : ByteArray)) ++ t154)) else (none))) else (none)) else (none))) else (none))
def date_clock.T1 : Bool × List (List Nat × List Nat) := (true, [([], []), ([0], [0]), ([1], [1]), ([2], [2]), ([], []), ([4], [4]), ([5, 2], [5]), ([3, 6], [3, 6]), ([7], [7]), ([], []), ([9], [9]), ([10, 6], [10]), ([8, 11], [8, 11]), ([12, 11, 0, 1, 2, 3, 4, 5, 6, 7, 8, 9, 10, 11, 12], [12])])
def date_clock.B1 : List Nat := [0, 1, 3, 7, 0, 16, 55, 127, 255, 0, 512, 1655, 4095, 8191]
theorem date_clock.tab1 : rtab .any (opsOf Tryz.f52 1) = date_clock.T1 := by kernel_rfl
theorem date_clock.bits1 : waitsOk date_clock.T1.2 date_clock.B1 = true := by kernel_rfl
set_option maxHeartbeats 8000000 in
set_option maxRecDepth 100000 in
theorem date_clock.calls (a0_0 : Int) (a0_1 : Int) (a0_2 : Int) (a0_3 : Int) (a0_4 : Int) (a0_5 : Int) (a0_6 : Int) (r : ByteArray) (w : World) (h : date_clock.f a0_0 a0_1 a0_2 a0_3 a0_4 a0_5 a0_6 = some r) :
    Calls Tryz.prog 52 #[.agg #[.int .i64 a0_0, .int .i64 a0_1, .int .i64 a0_2, .int .i64 a0_3, .int .i64 a0_4, .int .i64 a0_5, .int .i64 a0_6]] w fun e w' => e = .returned (.string r) ∧ Below w.heap.size w w' := by
 have hu67 := Tryz.underlying67
 have HB := Aside0.mk (Below.refl w.heap.size w)
 unfold date_clock.f at h
 have H := h
 clear h
 replace H := Option.bind_eq_some_iff.mp H
 obtain ⟨t152, A20, H⟩ := H
 try dsimp only at H
 have A2 := Aside0.mk A20
 clear A20
 obtain ⟨c3, H⟩ := iteS H
 have c3b0 := eq_true c3
 have c3b1 := decide_eq_true c3
 try have c3b2 := eq_false (Nat.not_lt.2 c3)
 replace H := Option.bind_eq_some_iff.mp H
 obtain ⟨t153, A40, H⟩ := H
 try dsimp only at H
 have A4 := Aside0.mk A40
 clear A40
 obtain ⟨c5, H⟩ := iteS H
 have c5b0 := eq_true c5
 have c5b1 := decide_eq_true c5
 try have c5b2 := eq_false (Nat.not_lt.2 c5)
 obtain ⟨c6, H⟩ := iteS H
 have c6b0 := eq_true c6
 have c6b1 := decide_eq_true c6
 try have c6b2 := eq_false (Nat.not_lt.2 c6)
 replace H := Option.bind_eq_some_iff.mp H
 obtain ⟨t154, A70, H⟩ := H
 try dsimp only at H
 have A7 := Aside0.mk A70
 clear A70
 obtain ⟨c8, H⟩ := iteS H
 have c8b0 := eq_true c8
 have c8b1 := decide_eq_true c8
 try have c8b2 := eq_false (Nat.not_lt.2 c8)
 obtain rfl := Option.some.inj H
 go_enter Tryz.func52, Tryz.ntmps52
 try go_wp2_with (first | ((with_reducible refine gate_dst (N := 1) rfl ?_); refine box_event ?hg (N := 1) ?hd (cs := #[.int .i64 a0_0, .int .i64 a0_1, .int .i64 a0_2, .int .i64 a0_3, .int .i64 a0_4, .int .i64 a0_5, .int .i64 a0_6]) (t := 67) ?hr ?_; (case hd => rfl); (case hg => rfl); (case hr => first | (go_simp; done) | (go_simp; rfl)); intro gb151 hg w9 hbox hb; have BK151 := Aside0.mk (hbox); have GW151 : Aside0 (w.heap.size ≤ gb151) := gw_ hg; have GE151 : Aside0 (w.heap.size ≤ gb151) := gw_ hg; replace HB := Aside0.mk (below_step blw hb); clear hb hbox hg))
 replace BK151 := Aside0.mk (blk_drew BK151.out)
 replace HB := Aside0.mk (below_drew1 HB.out)
 refine start_ (n := 14) (S := fun w' => w'.cell? ⟨gb151, 0, none⟩ = some (.int .i64 a0_0) ∧ w'.cell? ⟨gb151, 1, none⟩ = some (.int .i64 a0_1) ∧ w'.cell? ⟨gb151, 2, none⟩ = some (.int .i64 a0_2) ∧ w'.cell? ⟨gb151, 3, none⟩ = some (.int .i64 a0_3) ∧ w'.cell? ⟨gb151, 4, none⟩ = some (.int .i64 a0_4) ∧ w'.cell? ⟨gb151, 5, none⟩ = some (.int .i64 a0_5) ∧ w'.cell? ⟨gb151, 6, none⟩ = some (.int .i64 a0_6)) (ds := []) (ba 14 0) (by kernel_rfl) rfl rfl ⟨bk_ BK151, bk_ BK151, bk_ BK151, bk_ BK151, bk_ BK151, bk_ BK151, bk_ BK151⟩ (fun hHeld => ?_); refine with_tabW date_clock.tab1 date_clock.bits1 (fun HT_ HW_ => ?_)
 generalize w9.drew = w10 at BK151 HB hHeld ⊢
 refine pu_ 0 3 1 ?_
 refine pu_ 4 7 17 ?_
 refine pu_ 9 12 529 ?_
 refine tk_ 1 4 531 hHeld ?_
 refine tk_ 5 8 563 hHeld ?_
 refine tk_ 10 13 1587 hHeld ?_
 refine one1 2 (some 5) 1591 (fun K hK => ?_)
 refine go1 Tryz.func86 #[.int .i64 a0_3] ?_
 with_reducible refine (date_two.calls a0_3 t152 _ A2.out).mono ?_
 rintro e w11 ⟨rfl, hb⟩
 refine ⟨_, rfl, ?_⟩
 replace BK151 := Aside0.mk (blk_below (g := gb151) (o := .cells #[.int .i64 a0_0, .int .i64 a0_1, .int .i64 a0_2, .int .i64 a0_3, .int .i64 a0_4, .int .i64 a0_5, .int .i64 a0_6] 67 (0, 0)) (bkw BK151) hb)
 replace HB := Aside0.mk (below_step blw hb)
 (try clear hb)
 refine hK.out _ _ ⟨bk_ BK151, bk_ BK151, bk_ BK151, bk_ BK151, bk_ BK151, bk_ BK151, bk_ BK151⟩ (fun hHeld => ?_)
 clear hK K
 refine nm_ (some 5) ?_
 refine pu_ 3 6 1599 ?_
 refine one1 6 (some 9) 1663 (fun K hK => ?_)
 refine go1 Tryz.func86 #[.int .i64 a0_4] ?_
 with_reducible refine (date_two.calls a0_4 t153 _ A4.out).mono ?_
 rintro e w12 ⟨rfl, hb⟩
 refine ⟨_, rfl, ?_⟩
 replace BK151 := Aside0.mk (blk_below (g := gb151) (o := .cells #[.int .i64 a0_0, .int .i64 a0_1, .int .i64 a0_2, .int .i64 a0_3, .int .i64 a0_4, .int .i64 a0_5, .int .i64 a0_6] 67 (0, 0)) (bkw BK151) hb)
 replace HB := Aside0.mk (below_step blw hb)
 (try clear hb)
 refine hK.out _ _ ⟨bk_ BK151, bk_ BK151, bk_ BK151, bk_ BK151, bk_ BK151, bk_ BK151, bk_ BK151⟩ (fun hHeld => ?_)
 clear hK K
 refine nm_ (some 9) ?_
 refine pu_ 7 10 1791 ?_
 refine pu_ 8 11 2047 ?_
 refine one1 11 (some 14) 4095 (fun K hK => ?_)
 refine go1 Tryz.func86 #[.int .i64 a0_5] ?_
 with_reducible refine (date_two.calls a0_5 t154 _ A7.out).mono ?_
 rintro e w13 ⟨rfl, hb⟩
 refine ⟨_, rfl, ?_⟩
 replace BK151 := Aside0.mk (blk_below (g := gb151) (o := .cells #[.int .i64 a0_0, .int .i64 a0_1, .int .i64 a0_2, .int .i64 a0_3, .int .i64 a0_4, .int .i64 a0_5, .int .i64 a0_6] 67 (0, 0)) (bkw BK151) hb)
 replace HB := Aside0.mk (below_step blw hb)
 (try clear hb)
 refine hK.out _ _ ⟨bk_ BK151, bk_ BK151, bk_ BK151, bk_ BK151, bk_ BK151, bk_ BK151, bk_ BK151⟩ (fun hHeld => ?_)
 clear hK K
 refine nm_ (some 14) ?_
 refine pu_ 12 15 8191 ?_
 refine pu_ 13 2 16383 ?_
 refine done_ (done_of HT_.out (by kernel_rfl)) ?_
 try go_wp2
 go_ret
 exact ⟨by first | rfl | (simp [errW_none, errW_some] <;> rfl) | (simp [*, errW_none, errW_some] <;> rfl), blw⟩

end Go.Proofs.YtcpmoolpbeeedaaGreatDoor.Q
