-- Written by a program of this session (wip/myprint) out of the translation, for YtcpmoolpbeeedaaGreatDoor.
import Derived.Test.YtcpmoolpbeeedaaGreatDoorQ0
import Derived.Test.YtcpmoolpbeeedaaGreatDoorQ20
import Derived.Test.YtcpmoolpbeeedaaGreatDoorQ21
import Derived.Test.YtcpmoolpbeeedaaGreatDoorQ23
namespace Go.Proofs.YtcpmoolpbeeedaaGreatDoor.Q
open Go.RowKit Go.Proofs.YtcpmoolpbeeedaaGreatDoorW.PrintWords Go.Proofs.YtcpmoolpbeeedaaGreatDoorW.PrintLast Go.Proofs.YtcpmoolpbeeedaaGreatDoorW.PrintMore Go.Proofs.YtcpmoolpbeeedaaGreatDoorW.PrintSq
attribute [local go_sem] max2_int min2_int max_two min_two max_three min_three max_four min_four   -- for this text's walks alone
set_option linter.unusedVariables false
set_option linter.unusedSimpArgs false

/-! ### bulletinref23_Entry: function 17 -/
def bulletinref23_Entry.f (k : Nat) (a0_0 : ByteArray) (a0_1 : ByteArray) (a0_2 : Int) (a0_3 : ByteArray) : Option (ByteArray) := (bulletinref13_Text.f k a0_0 a0_1).bind fun t465 => (if 5 + t465.size ≤ 9223372036854775807 then (if 5 + t465.size + 1 ≤ 9223372036854775807 then ((bulletinref22_Line.f k a0_2).bind fun t466 => (if 5 + t465.size + 1 + t466.size ≤ 9223372036854775807 then (if 5 + t465.size + 1 + t466.size + 2 ≤ 9223372036854775807 then ((bulletinref23_Quote.f k a0_3).bind fun t467 => (if 5 + t465.size + 1 + t466.size + 2 + t467.size ≤ 9223372036854775807 then (if a0_3.toList = ([] : List UInt8) then (if 5 + t465.size + 1 + t466.size + 2 + t467.size + 2 ≤ 9223372036854775807 then (some (((((((⟨#[70, 114, 111, 109, 32]⟩ : ByteArray) ++ t465) ++ (⟨#[32]⟩ : ByteArray)) ++ t466) ++ (⟨#[13, 10]⟩ : ByteArray)) ++ t467) ++ (⟨#[13, 10]⟩ : ByteArray))) else (none)) else ((bulletinref23_ends.f a0_3).bind fun t468 => (if t468 = true then (if 5 + t465.size + 1 + t466.size + 2 + t467.size + 2 ≤ 9223372036854775807 then (some (((((((⟨#[70, 114, 111, 109, 32]⟩ : ByteArray) ++ t465) ++ (⟨#[32]⟩ : ByteArray)) ++ t466) ++ (⟨#[13, 10]⟩ : ByteArray)) ++ t467) ++ (⟨#[13, 10]⟩ : ByteArray))) else (none)) else (if 5 + t465.size + 1 + t466.size + 2 + t467.size + 2 ≤ 9223372036854775807 then (if 5 + t465.size + 1 + t466.size + 2 + t467.size + 2 + 2 ≤ 9223372036854775807 then (some ((((((((⟨#[70, 114, 111, 109, 32]⟩ : ByteArray) ++ t465) ++ (⟨#[32]⟩ : ByteArray)) ++ t466) ++ (⟨#[13, 10]⟩ : ByteArray)) ++ t467) ++ (⟨#[13, 10]⟩ : ByteArray)) ++ (⟨#[13, 10]⟩ : ByteArray))) else (none)) else (none))))) else (none))) else (none)) else (none))) else (none)) else (none))
theorem bulletinref23_Entry.mono : ∀ a0 a1 a2 a3 k, LeO (bulletinref23_Entry.f k a0 a1 a2 a3) (bulletinref23_Entry.f (k + 1) a0 a1 a2 a3) := by
  intro a0 a1 a2 a3 k
  unfold bulletinref23_Entry.f
  repeat' first | (with_reducible first | exact bulletinref13_Text.mono _ _ _ | exact bulletinref22_Line.mono _ _ | exact bulletinref23_Quote.mono _ _ | exact LeO.refl _ | exact LeO.none _ | refine LeO.ite ?_ ?_ | refine LeO.bind ?_ (fun _ => ?_)) | exact bulletinref13_Text.mono _ _ _ | exact bulletinref22_Line.mono _ _ | exact bulletinref23_Quote.mono _ _ | exact LeO.none _ | refine LeO.ite ?_ ?_ | refine LeO.bind ?_ (fun _ => ?_)
def bulletinref23_Entry.T1 : Bool × List (List Nat × List Nat) := (true, [([], []), ([0], [0]), ([1], [1]), ([2], [2]), ([3], [3]), ([], []), ([5], [5]), ([6, 2], [6]), ([4, 7], [4, 7]), ([8], [8]), ([], []), ([10], [10]), ([11, 7], [11]), ([9, 12], [9, 12]), ([13, 12, 0, 1, 2, 3, 4, 5, 6, 7, 8, 9, 10, 11, 12, 13], [13])])
def bulletinref23_Entry.B1 : List Nat := [0, 1, 3, 7, 15, 0, 32, 103, 255, 511, 0, 1024, 3303, 8191, 16383]
theorem bulletinref23_Entry.tab1 : rtab .any (opsOf Tryz.f17 1) = bulletinref23_Entry.T1 := by kernel_rfl
theorem bulletinref23_Entry.bits1 : waitsOk bulletinref23_Entry.T1.2 bulletinref23_Entry.B1 = true := by kernel_rfl
set_option maxHeartbeats 8000000 in
set_option maxRecDepth 100000 in
theorem bulletinref23_Entry.calls (k : Nat) (a0_0 : ByteArray) (a0_1 : ByteArray) (a0_2 : Int) (a0_3 : ByteArray) (r : ByteArray) (w : World) (h : bulletinref23_Entry.f k a0_0 a0_1 a0_2 a0_3 = some r) :
    Calls Tryz.prog 17 #[.agg #[.string a0_0, .string a0_1, .int .i64 a0_2, .string a0_3]] w fun e w' => e = .returned (.string r) ∧ Below w.heap.size w w' := by
 have hu28 := Tryz.underlying28
 have hu26 := Tryz.underlying26
 have HB := Aside0.mk (Below.refl w.heap.size w)
 unfold bulletinref23_Entry.f at h
 have H := h
 clear h
 replace H := Option.bind_eq_some_iff.mp H
 obtain ⟨t465, A20, H⟩ := H
 try dsimp only at H
 have A2 := Aside0.mk A20
 clear A20
 obtain ⟨c3, H⟩ := iteS H
 have c3b0 := eq_true c3
 have c3b1 := decide_eq_true c3
 try have c3b2 := eq_false (Nat.not_lt.2 c3)
 obtain ⟨c4, H⟩ := iteS H
 have c4b0 := eq_true c4
 have c4b1 := decide_eq_true c4
 try have c4b2 := eq_false (Nat.not_lt.2 c4)
 replace H := Option.bind_eq_some_iff.mp H
 obtain ⟨t466, A50, H⟩ := H
 try dsimp only at H
 have A5 := Aside0.mk A50
 clear A50
 obtain ⟨c6, H⟩ := iteS H
 have c6b0 := eq_true c6
 have c6b1 := decide_eq_true c6
 try have c6b2 := eq_false (Nat.not_lt.2 c6)
 obtain ⟨c7, H⟩ := iteS H
 have c7b0 := eq_true c7
 have c7b1 := decide_eq_true c7
 try have c7b2 := eq_false (Nat.not_lt.2 c7)
 replace H := Option.bind_eq_some_iff.mp H
 obtain ⟨t467, A80, H⟩ := H
 try dsimp only at H
 have A8 := Aside0.mk A80
 clear A80
 obtain ⟨c9, H⟩ := iteS H
 have c9b0 := eq_true c9
 have c9b1 := decide_eq_true c9
 try have c9b2 := eq_false (Nat.not_lt.2 c9)
 by_cases c10 : a0_3.toList = ([] : List UInt8)
 ·rw [if_pos c10] at H
  have c10b0 := beq_iff_eq.mpr c10
  have c10b1 := bne_eq_false_iff_eq.mpr c10
  clear c10
  obtain ⟨c11, H⟩ := iteS H
  have c11b0 := eq_true c11
  have c11b1 := decide_eq_true c11
  try have c11b2 := eq_false (Nat.not_lt.2 c11)
  obtain rfl := Option.some.inj H
  go_enter Tryz.func17, Tryz.ntmps17
  try go_wp2_with (first | ((with_reducible refine gate_dst (N := 1) rfl ?_); refine box_event ?hg (N := 1) ?hd (cs := #[.string a0_0, .string a0_1, .int .i64 a0_2, .string a0_3]) (t := 28) ?hr ?_; (case hd => rfl); (case hg => rfl); (case hr => first | (go_simp; done) | (go_simp; rfl)); intro gb464 hg w12 hbox hb; have BK464 := Aside0.mk (hbox); have GW464 : Aside0 (w.heap.size ≤ gb464) := gw_ hg; have GE464 : Aside0 (w.heap.size ≤ gb464) := gw_ hg; replace HB := Aside0.mk (below_step blw hb); clear hb hbox hg))
  replace BK464 := Aside0.mk (blk_drew BK464.out)
  replace HB := Aside0.mk (below_drew1 HB.out)
  refine start_ (n := 15) (S := fun w' => w'.cell? ⟨gb464, 0, none⟩ = some (.string a0_0) ∧ w'.cell? ⟨gb464, 1, none⟩ = some (.string a0_1) ∧ w'.cell? ⟨gb464, 2, none⟩ = some (.int .i64 a0_2) ∧ w'.cell? ⟨gb464, 3, none⟩ = some (.string a0_3)) (ds := []) (ba 15 0) (by kernel_rfl) rfl rfl ⟨bk_ BK464, bk_ BK464, bk_ BK464, bk_ BK464⟩ (fun hHeld => ?_); refine with_tabW bulletinref23_Entry.tab1 bulletinref23_Entry.bits1 (fun HT_ HW_ => ?_)
  generalize w12.drew = w13 at BK464 HB hHeld ⊢
  refine pu_ 0 4 1 ?_
  refine pu_ 5 9 33 ?_
  refine pu_ 10 14 1057 ?_
  refine tk_ 1 5 1059 hHeld ?_
  refine tk_ 6 10 1123 hHeld ?_
  refine tk_ 11 15 3171 hHeld ?_
  refine one1 2 (some 6) 3175 (fun K hK => ?_)
  refine go1 Tryz.func33 #[.agg #[.string a0_0, .string a0_1]] ?_
  with_reducible refine (bulletinref13_Text.calls k a0_0 a0_1 t465 _ A2.out).mono ?_
  rintro e w14 ⟨rfl, hb⟩
  refine ⟨_, rfl, ?_⟩
  replace BK464 := Aside0.mk (blk_below (g := gb464) (o := .cells #[.string a0_0, .string a0_1, .int .i64 a0_2, .string a0_3] 28 (0, 0)) (bkw BK464) hb)
  replace HB := Aside0.mk (below_step blw hb)
  (try clear hb)
  refine hK.out _ _ ⟨bk_ BK464, bk_ BK464, bk_ BK464, bk_ BK464⟩ (fun hHeld => ?_)
  clear hK K
  refine nm_ (some 6) ?_
  refine pu_ 3 7 3183 ?_
  refine pu_ 4 8 3199 ?_
  refine one1 7 (some 11) 3327 (fun K hK => ?_)
  refine go1 Tryz.func34 #[.int .i64 a0_2] ?_
  with_reducible refine (bulletinref22_Line.calls k a0_2 t466 _ A5.out).mono ?_
  rintro e w15 ⟨rfl, hb⟩
  refine ⟨_, rfl, ?_⟩
  replace BK464 := Aside0.mk (blk_below (g := gb464) (o := .cells #[.string a0_0, .string a0_1, .int .i64 a0_2, .string a0_3] 28 (0, 0)) (bkw BK464) hb)
  replace HB := Aside0.mk (below_step blw hb)
  (try clear hb)
  refine hK.out _ _ ⟨bk_ BK464, bk_ BK464, bk_ BK464, bk_ BK464⟩ (fun hHeld => ?_)
  clear hK K
  refine nm_ (some 11) ?_
  refine pu_ 8 12 3583 ?_
  refine pu_ 9 13 4095 ?_
  refine one1 12 (some 16) 8191 (fun K hK => ?_)
  refine go1 Tryz.func11 #[.string a0_3] ?_
  with_reducible refine (bulletinref23_Quote.calls k a0_3 t467 _ A8.out).mono ?_
  rintro e w16 ⟨rfl, hb⟩
  refine ⟨_, rfl, ?_⟩
  replace BK464 := Aside0.mk (blk_below (g := gb464) (o := .cells #[.string a0_0, .string a0_1, .int .i64 a0_2, .string a0_3] 28 (0, 0)) (bkw BK464) hb)
  replace HB := Aside0.mk (below_step blw hb)
  (try clear hb)
  refine hK.out _ _ ⟨bk_ BK464, bk_ BK464, bk_ BK464, bk_ BK464⟩ (fun hHeld => ?_)
  clear hK K
  refine nm_ (some 16) ?_
  refine pu_ 13 17 16383 ?_
  refine pu_ 14 3 32767 ?_
  refine done_ (done_of HT_.out (by kernel_rfl)) ?_
  have hcz17_0 : w16.cell? ⟨gb464, 0, none⟩ = some (.string a0_0) := bk_ BK464
  have hcz17_1 : w16.cell? ⟨gb464, 1, none⟩ = some (.string a0_1) := bk_ BK464
  have hcz17_2 : w16.cell? ⟨gb464, 2, none⟩ = some (.int .i64 a0_2) := bk_ BK464
  have hcz17_3 : w16.cell? ⟨gb464, 3, none⟩ = some (.string a0_3) := bk_ BK464
  have hfz17_0 := blk_frozen BK464.out 0
  have hfz17_1 := blk_frozen BK464.out 1
  have hfz17_2 := blk_frozen BK464.out 2
  have hfz17_3 := blk_frozen BK464.out 3
  try go_wp2
  go_ret
  exact ⟨by first | rfl | (simp [errW_none, errW_some] <;> rfl) | (simp [*, errW_none, errW_some] <;> rfl), blw⟩
 ·rw [if_neg c10] at H
  have c10b0 := beq_eq_false_iff_ne.mpr c10
  have c10b1 := bne_iff_ne.mpr c10
  replace H := Option.bind_eq_some_iff.mp H
  obtain ⟨t468, A180, H⟩ := H
  try dsimp only at H
  have A18 := Aside0.mk A180
  clear A180
  by_cases c19 : t468 = true
  ·subst c19
   rw [if_pos rfl] at H
   obtain ⟨c20, H⟩ := iteS H
   have c20b0 := eq_true c20
   have c20b1 := decide_eq_true c20
   try have c20b2 := eq_false (Nat.not_lt.2 c20)
   obtain rfl := Option.some.inj H
   go_enter Tryz.func17, Tryz.ntmps17
   try go_wp2_with (first | ((with_reducible refine gate_dst (N := 1) rfl ?_); refine box_event ?hg (N := 1) ?hd (cs := #[.string a0_0, .string a0_1, .int .i64 a0_2, .string a0_3]) (t := 28) ?hr ?_; (case hd => rfl); (case hg => rfl); (case hr => first | (go_simp; done) | (go_simp; rfl)); intro gb464 hg w21 hbox hb; have BK464 := Aside0.mk (hbox); have GW464 : Aside0 (w.heap.size ≤ gb464) := gw_ hg; have GE464 : Aside0 (w.heap.size ≤ gb464) := gw_ hg; replace HB := Aside0.mk (below_step blw hb); clear hb hbox hg))
   replace BK464 := Aside0.mk (blk_drew BK464.out)
   replace HB := Aside0.mk (below_drew1 HB.out)
   refine start_ (n := 15) (S := fun w' => w'.cell? ⟨gb464, 0, none⟩ = some (.string a0_0) ∧ w'.cell? ⟨gb464, 1, none⟩ = some (.string a0_1) ∧ w'.cell? ⟨gb464, 2, none⟩ = some (.int .i64 a0_2) ∧ w'.cell? ⟨gb464, 3, none⟩ = some (.string a0_3)) (ds := []) (ba 15 0) (by kernel_rfl) rfl rfl ⟨bk_ BK464, bk_ BK464, bk_ BK464, bk_ BK464⟩ (fun hHeld => ?_); refine with_tabW bulletinref23_Entry.tab1 bulletinref23_Entry.bits1 (fun HT_ HW_ => ?_)
   generalize w21.drew = w22 at BK464 HB hHeld ⊢
   refine pu_ 0 4 1 ?_
   refine pu_ 5 9 33 ?_
   refine pu_ 10 14 1057 ?_
   refine tk_ 1 5 1059 hHeld ?_
   refine tk_ 6 10 1123 hHeld ?_
   refine tk_ 11 15 3171 hHeld ?_
   refine one1 2 (some 6) 3175 (fun K hK => ?_)
   refine go1 Tryz.func33 #[.agg #[.string a0_0, .string a0_1]] ?_
   with_reducible refine (bulletinref13_Text.calls k a0_0 a0_1 t465 _ A2.out).mono ?_
   rintro e w23 ⟨rfl, hb⟩
   refine ⟨_, rfl, ?_⟩
   replace BK464 := Aside0.mk (blk_below (g := gb464) (o := .cells #[.string a0_0, .string a0_1, .int .i64 a0_2, .string a0_3] 28 (0, 0)) (bkw BK464) hb)
   replace HB := Aside0.mk (below_step blw hb)
   (try clear hb)
   refine hK.out _ _ ⟨bk_ BK464, bk_ BK464, bk_ BK464, bk_ BK464⟩ (fun hHeld => ?_)
   clear hK K
   refine nm_ (some 6) ?_
   refine pu_ 3 7 3183 ?_
   refine pu_ 4 8 3199 ?_
   refine one1 7 (some 11) 3327 (fun K hK => ?_)
   refine go1 Tryz.func34 #[.int .i64 a0_2] ?_
   with_reducible refine (bulletinref22_Line.calls k a0_2 t466 _ A5.out).mono ?_
   rintro e w24 ⟨rfl, hb⟩
   refine ⟨_, rfl, ?_⟩
   replace BK464 := Aside0.mk (blk_below (g := gb464) (o := .cells #[.string a0_0, .string a0_1, .int .i64 a0_2, .string a0_3] 28 (0, 0)) (bkw BK464) hb)
   replace HB := Aside0.mk (below_step blw hb)
   (try clear hb)
   refine hK.out _ _ ⟨bk_ BK464, bk_ BK464, bk_ BK464, bk_ BK464⟩ (fun hHeld => ?_)
   clear hK K
   refine nm_ (some 11) ?_
   refine pu_ 8 12 3583 ?_
   refine pu_ 9 13 4095 ?_
   refine one1 12 (some 16) 8191 (fun K hK => ?_)
   refine go1 Tryz.func11 #[.string a0_3] ?_
   with_reducible refine (bulletinref23_Quote.calls k a0_3 t467 _ A8.out).mono ?_
   rintro e w25 ⟨rfl, hb⟩
   refine ⟨_, rfl, ?_⟩
   replace BK464 := Aside0.mk (blk_below (g := gb464) (o := .cells #[.string a0_0, .string a0_1, .int .i64 a0_2, .string a0_3] 28 (0, 0)) (bkw BK464) hb)
   replace HB := Aside0.mk (below_step blw hb)
   (try clear hb)
   refine hK.out _ _ ⟨bk_ BK464, bk_ BK464, bk_ BK464, bk_ BK464⟩ (fun hHeld => ?_)
   clear hK K
   refine nm_ (some 16) ?_
   refine pu_ 13 17 16383 ?_
   refine pu_ 14 3 32767 ?_
   refine done_ (done_of HT_.out (by kernel_rfl)) ?_
   have hcz26_0 : w25.cell? ⟨gb464, 0, none⟩ = some (.string a0_0) := bk_ BK464
   have hcz26_1 : w25.cell? ⟨gb464, 1, none⟩ = some (.string a0_1) := bk_ BK464
   have hcz26_2 : w25.cell? ⟨gb464, 2, none⟩ = some (.int .i64 a0_2) := bk_ BK464
   have hcz26_3 : w25.cell? ⟨gb464, 3, none⟩ = some (.string a0_3) := bk_ BK464
   have hfz26_0 := blk_frozen BK464.out 0
   have hfz26_1 := blk_frozen BK464.out 1
   have hfz26_2 := blk_frozen BK464.out 2
   have hfz26_3 := blk_frozen BK464.out 3
   try go_wp2_with (first | (go_at_call 35; (with_reducible refine (bulletinref23_ends.calls a0_3 true _ A18.out).mono ?_); rintro e w' ⟨rfl, ⟨nd, rfl⟩⟩))
   go_ret
   exact ⟨by first | rfl | (simp [errW_none, errW_some] <;> rfl) | (simp [*, errW_none, errW_some] <;> rfl), blw⟩
  ·replace c19 := Bool.eq_false_iff.mpr c19
   subst c19
   rw [if_neg nft] at H
   obtain ⟨c27, H⟩ := iteS H
   have c27b0 := eq_true c27
   have c27b1 := decide_eq_true c27
   try have c27b2 := eq_false (Nat.not_lt.2 c27)
   obtain ⟨c28, H⟩ := iteS H
   have c28b0 := eq_true c28
   have c28b1 := decide_eq_true c28
   try have c28b2 := eq_false (Nat.not_lt.2 c28)
   obtain rfl := Option.some.inj H
   go_enter Tryz.func17, Tryz.ntmps17
   try go_wp2_with (first | ((with_reducible refine gate_dst (N := 1) rfl ?_); refine box_event ?hg (N := 1) ?hd (cs := #[.string a0_0, .string a0_1, .int .i64 a0_2, .string a0_3]) (t := 28) ?hr ?_; (case hd => rfl); (case hg => rfl); (case hr => first | (go_simp; done) | (go_simp; rfl)); intro gb464 hg w29 hbox hb; have BK464 := Aside0.mk (hbox); have GW464 : Aside0 (w.heap.size ≤ gb464) := gw_ hg; have GE464 : Aside0 (w.heap.size ≤ gb464) := gw_ hg; replace HB := Aside0.mk (below_step blw hb); clear hb hbox hg))
   replace BK464 := Aside0.mk (blk_drew BK464.out)
   replace HB := Aside0.mk (below_drew1 HB.out)
   refine start_ (n := 15) (S := fun w' => w'.cell? ⟨gb464, 0, none⟩ = some (.string a0_0) ∧ w'.cell? ⟨gb464, 1, none⟩ = some (.string a0_1) ∧ w'.cell? ⟨gb464, 2, none⟩ = some (.int .i64 a0_2) ∧ w'.cell? ⟨gb464, 3, none⟩ = some (.string a0_3)) (ds := []) (ba 15 0) (by kernel_rfl) rfl rfl ⟨bk_ BK464, bk_ BK464, bk_ BK464, bk_ BK464⟩ (fun hHeld => ?_); refine with_tabW bulletinref23_Entry.tab1 bulletinref23_Entry.bits1 (fun HT_ HW_ => ?_)
   generalize w29.drew = w30 at BK464 HB hHeld ⊢
   refine pu_ 0 4 1 ?_
   refine pu_ 5 9 33 ?_
   refine pu_ 10 14 1057 ?_
   refine tk_ 1 5 1059 hHeld ?_
   refine tk_ 6 10 1123 hHeld ?_
   refine tk_ 11 15 3171 hHeld ?_
   refine one1 2 (some 6) 3175 (fun K hK => ?_)
   refine go1 Tryz.func33 #[.agg #[.string a0_0, .string a0_1]] ?_
   with_reducible refine (bulletinref13_Text.calls k a0_0 a0_1 t465 _ A2.out).mono ?_
   rintro e w31 ⟨rfl, hb⟩
   refine ⟨_, rfl, ?_⟩
   replace BK464 := Aside0.mk (blk_below (g := gb464) (o := .cells #[.string a0_0, .string a0_1, .int .i64 a0_2, .string a0_3] 28 (0, 0)) (bkw BK464) hb)
   replace HB := Aside0.mk (below_step blw hb)
   (try clear hb)
   refine hK.out _ _ ⟨bk_ BK464, bk_ BK464, bk_ BK464, bk_ BK464⟩ (fun hHeld => ?_)
   clear hK K
   refine nm_ (some 6) ?_
   refine pu_ 3 7 3183 ?_
   refine pu_ 4 8 3199 ?_
   refine one1 7 (some 11) 3327 (fun K hK => ?_)
   refine go1 Tryz.func34 #[.int .i64 a0_2] ?_
   with_reducible refine (bulletinref22_Line.calls k a0_2 t466 _ A5.out).mono ?_
   rintro e w32 ⟨rfl, hb⟩
   refine ⟨_, rfl, ?_⟩
   replace BK464 := Aside0.mk (blk_below (g := gb464) (o := .cells #[.string a0_0, .string a0_1, .int .i64 a0_2, .string a0_3] 28 (0, 0)) (bkw BK464) hb)
   replace HB := Aside0.mk (below_step blw hb)
   (try clear hb)
   refine hK.out _ _ ⟨bk_ BK464, bk_ BK464, bk_ BK464, bk_ BK464⟩ (fun hHeld => ?_)
   clear hK K
   refine nm_ (some 11) ?_
   refine pu_ 8 12 3583 ?_
   refine pu_ 9 13 4095 ?_
   refine one1 12 (some 16) 8191 (fun K hK => ?_)
   refine go1 Tryz.func11 #[.string a0_3] ?_
   with_reducible refine (bulletinref23_Quote.calls k a0_3 t467 _ A8.out).mono ?_
   rintro e w33 ⟨rfl, hb⟩
   refine ⟨_, rfl, ?_⟩
   replace BK464 := Aside0.mk (blk_below (g := gb464) (o := .cells #[.string a0_0, .string a0_1, .int .i64 a0_2, .string a0_3] 28 (0, 0)) (bkw BK464) hb)
   replace HB := Aside0.mk (below_step blw hb)
   (try clear hb)
   refine hK.out _ _ ⟨bk_ BK464, bk_ BK464, bk_ BK464, bk_ BK464⟩ (fun hHeld => ?_)
   clear hK K
   refine nm_ (some 16) ?_
   refine pu_ 13 17 16383 ?_
   refine pu_ 14 3 32767 ?_
   refine done_ (done_of HT_.out (by kernel_rfl)) ?_
   have hcz34_0 : w33.cell? ⟨gb464, 0, none⟩ = some (.string a0_0) := bk_ BK464
   have hcz34_1 : w33.cell? ⟨gb464, 1, none⟩ = some (.string a0_1) := bk_ BK464
   have hcz34_2 : w33.cell? ⟨gb464, 2, none⟩ = some (.int .i64 a0_2) := bk_ BK464
   have hcz34_3 : w33.cell? ⟨gb464, 3, none⟩ = some (.string a0_3) := bk_ BK464
   have hfz34_0 := blk_frozen BK464.out 0
   have hfz34_1 := blk_frozen BK464.out 1
   have hfz34_2 := blk_frozen BK464.out 2
   have hfz34_3 := blk_frozen BK464.out 3
   try go_wp2_with (first | (go_at_call 35; (with_reducible refine (bulletinref23_ends.calls a0_3 false _ A18.out).mono ?_); rintro e w' ⟨rfl, ⟨nd, rfl⟩⟩))
   go_ret
   exact ⟨by first | rfl | (simp [errW_none, errW_some] <;> rfl) | (simp [*, errW_none, errW_some] <;> rfl), blw⟩

/-! ### bulletinref06_Fold: function 65 -/
def bulletinref06_Fold.l0 : Nat → ByteArray → ByteArray → Int → Option (ByteArray)
  | 0, _, _, _ => none
  | k + 1, x0, x3, x4 => if x4 < (x0.size : Int) then (if 0 ≤ x4 then (if (bt x0 x4) ≥ 65 then (if (bt x0 x4) ≤ 90 then ((some (([((bt x0 x4) + 32) % 256] : List Int) : List Int)).bind fun y469 => (if x3.size + (strOfNums y469).size ≤ 9223372036854775807 then (bulletinref06_Fold.l0 k x0 (x3 ++ (strOfNums y469)) (wrap64 (x4 + 1))) else (none))) else (if x4 ≤ (wrap64 (x4 + 1)) then (if (wrap64 (x4 + 1)) ≤ (x0.size : Int) then (if x3.size + ((x0.extract (x4 : Int).toNat ((wrap64 (x4 + 1)) : Int).toNat).size) ≤ 9223372036854775807 then (bulletinref06_Fold.l0 k x0 (x3 ++ (x0.extract (x4 : Int).toNat ((wrap64 (x4 + 1)) : Int).toNat)) (wrap64 (x4 + 1))) else (none)) else (none)) else (none))) else (if x4 ≤ (wrap64 (x4 + 1)) then (if (wrap64 (x4 + 1)) ≤ (x0.size : Int) then (if x3.size + ((x0.extract (x4 : Int).toNat ((wrap64 (x4 + 1)) : Int).toNat).size) ≤ 9223372036854775807 then (bulletinref06_Fold.l0 k x0 (x3 ++ (x0.extract (x4 : Int).toNat ((wrap64 (x4 + 1)) : Int).toNat)) (wrap64 (x4 + 1))) else (none)) else (none)) else (none))) else (none)) else (some x3)
def bulletinref06_Fold.f (k : Nat) (a0 : ByteArray) : Option (ByteArray) := bulletinref06_Fold.l0 k a0 (⟨#[]⟩ : ByteArray) 0
theorem bulletinref06_Fold.mono_l : ∀ k, (∀ y0 y1 y2, LeO (bulletinref06_Fold.l0 k y0 y1 y2) (bulletinref06_Fold.l0 (k + 1) y0 y1 y2))
  | 0 => fun _ _ _ r h => by simp [bulletinref06_Fold.l0] at h
  | k + 1 => by
    have ih0 := bulletinref06_Fold.mono_l k
    · intro y0 y1 y2
      unfold bulletinref06_Fold.l0
      repeat' first | (with_reducible first | exact ih0 _ _ _ | exact LeO.refl _ | exact LeO.none _ | refine LeO.ite ?_ ?_ | refine LeO.bind ?_ (fun _ => ?_)) | exact ih0 _ _ _ | exact LeO.none _ | refine LeO.ite ?_ ?_ | refine LeO.bind ?_ (fun _ => ?_)
theorem bulletinref06_Fold.mono : ∀ a0 k, LeO (bulletinref06_Fold.f k a0) (bulletinref06_Fold.f (k + 1) a0) := by
  intro a0 k
  have ih0 := bulletinref06_Fold.mono_l k
  unfold bulletinref06_Fold.f
  repeat' first | (with_reducible first | exact ih0 _ _ _ | exact LeO.refl _ | exact LeO.none _ | refine LeO.ite ?_ ?_ | refine LeO.bind ?_ (fun _ => ?_)) | exact ih0 _ _ _ | exact LeO.none _ | refine LeO.ite ?_ ?_ | refine LeO.bind ?_ (fun _ => ?_)
set_option maxHeartbeats 8000000 in
set_option maxRecDepth 100000 in
theorem bulletinref06_Fold.calls (k : Nat) (a0 : ByteArray) (r : ByteArray) (w : World) (h : bulletinref06_Fold.f k a0 = some r) :
    Calls Tryz.prog 65 #[.string a0] w fun e w' => e = .returned (.string r) ∧ Below w.heap.size w w' := by
 have HB := Aside0.mk (Below.refl w.heap.size w)
 unfold bulletinref06_Fold.f at h
 have H := h
 clear h
 have H' := Aside0.mk H
 clear H
 go_enter Tryz.func65, Tryz.ntmps65
 go_wp2
 go_loopg [3, 4] k (fun kq v3 v4 w' => ∃ (x3_1 : ByteArray) (x4_1 : Int), v3 = .string x3_1 ∧ v4 = .int .i64 x4_1 ∧ Aside0 (bulletinref06_Fold.l0 kq a0 x3_1 x4_1 = some r) ∧ Aside0 (kq ≤ k) ∧ Aside0 (Below w.heap.size w w'))
 case atStart => exact ⟨((⟨#[]⟩ : ByteArray)), (0), eqs, eqs, H', ⟨Nat.le_refl _⟩, ⟨blw⟩⟩
 case round =>
  clear H'
  obtain ⟨x3_1, x4_1, rfl, rfl, HA, HK1, HB⟩ := hrel
  cases gk with
  | zero => exact absurd HA.out (by simp [bulletinref06_Fold.l0])
  | succ k1 =>
   have H := HA.out
   clear HA
   simp only [bulletinref06_Fold.l0] at H
   by_cases c2 : x4_1 < (a0.size : Int)
   ·rw [if_pos c2] at H
    have c2b0 := decide_eq_true c2
    clear c2
    obtain ⟨c3, H⟩ := iteS H
    have c3b0 := decide_eq_true c3
    clear c3
    by_cases c5 : (bt a0 x4_1) ≥ 65
    ·rw [if_pos c5] at H
     have c5b0 : decide (65 ≤ (bt a0 x4_1)) = true := decide_eq_true c5
     clear c5
     by_cases c7 : (bt a0 x4_1) ≤ 90
     ·rw [if_pos c7] at H
      have c7b0 := decide_eq_true c7
      clear c7
      obtain ⟨y469, hy469⟩ : ∃ y_ : List Int, y_ = (([((bt a0 x4_1) + 32) % 256] : List Int)) := ⟨_, rfl⟩
      replace H : (if x3_1.size + (strOfNums y469).size ≤ 9223372036854775807 then (bulletinref06_Fold.l0 k1 a0 (x3_1 ++ (strOfNums y469)) (wrap64 (x4_1 + 1))) else (none)) = some r := by first | (rw [hy469]; with_reducible exact H) | (have H2_ := (Option.bind_some _ _).symm.trans H; rw [hy469]; with_reducible exact H2_) | (have H2_ := (Option.bind_some _ _).symm.trans H; with_reducible exact H2_) | with_reducible exact H | (rw [hy469]; exact H) | exact H
      have Ny469 := Aside0.mk hy469
      clear hy469
      obtain ⟨c9, H⟩ := iteS H
      have c9b0 := eq_true c9
      have c9b1 := decide_eq_true c9
      try have c9b2 := eq_false (Nat.not_lt.2 c9)
      have H' := Aside0.mk H
      clear H
      have p4 : 0 ≤ (x4_1 : Int) := od_
      have q4 : x4_1 < (a0.size : Int) := od_
      have hx4 := bt_at a0 x4_1
      replace p4 := eq_true p4
      replace q4 := eq_true q4
      have p6 : 0 ≤ (x4_1 : Int) := od_
      have q6 : x4_1 < (a0.size : Int) := od_
      have hx6 := bt_at a0 x4_1
      replace p6 := eq_true p6
      replace q6 := eq_true q6
      have p8 : 0 ≤ (x4_1 : Int) := od_
      have q8 : x4_1 < (a0.size : Int) := od_
      have hx8 := bt_at a0 x4_1
      replace p8 := eq_true p8
      replace q8 := eq_true q8
      go_wp2_with (first | ((with_reducible refine gate_dst (N := 26) rfl ?_); refine Kd.R_lit (Kd.int .u8) _ 5 ?hg (N := 26) ?hd (xs := ([((bt a0 x4_1) + 32) % 256] : List Int)) (inner := [.int .u8 (((bt a0 x4_1) + 32) % 256)]) (ok := fun _ => True) (okp := fun _ => True) ?hr ?hp (fun _ hk => hk) trivial (Below.refl _ _) (Nat.le_refl _) (by simp) ?_; (case hd => rfl); (case hg => rfl); (case hr => first | (go_simp; done) | (go_simp; rfl)); (case hp => exact (Reps.one (show Kd.M (Kd.int .u8) _ _ _ (((bt a0 x4_1) + 32) % 256) [.int .u8 (((bt a0 x4_1) + 32) % 256)] from rfl) (Reps.none _ _))); intro v470 w10 ho11 hb hg_ hnew_; clear hg_ hnew_; (first | rw [← Ny469.out] at ho11 | (simp only [Int.reduceToNat] at ho11; rw [← Ny469.out] at ho11)); have HO471 := Aside0.mk (Kd.R_lower ho11 (below_size blw)); replace HB := Aside0.mk (below_step blw hb); clear hb ho11; have hcv12 := own_string (P := Tryz.prog) Tryz.underlying88 Tryz.underlying5 Tryz.underlying9 (Kd.own_of_R HO471.out)))
      go_roundg k1
      case measure => have := HK1.out; omega
      case rel => exact ⟨(x3_1 ++ (strOfNums y469)), (wrap64 (x4_1 + 1)), eqs, eqs, H', ⟨by have := HK1.out; omega⟩, ⟨blw⟩⟩
     ·rw [if_neg c7] at H
      have c7b0 := decide_eq_false c7
      clear c7
      have c13b0 := eq_true (od_ : 0 ≤ x4_1)
      obtain ⟨c14, H⟩ := iteS H
      have c14b0 := eq_true c14
      have c14b1 := decide_eq_true c14
      obtain ⟨c15, H⟩ := iteS H
      have c15b0 := eq_true c15
      have c15b1 := decide_eq_true c15
      obtain ⟨c16, H⟩ := iteS H
      have c16b0 := eq_true c16
      have c16b1 := decide_eq_true c16
      (try (have c16x := c16; simp only [ByteArray.size_extract, Nat.min_self] at c16x; have c16xb0 := eq_true c16x; have c16xb1 := decide_eq_true c16x; (try have c16xb2 := eq_false (Nat.not_lt.2 c16x)); clear c16x))
      try have c16b2 := eq_false (Nat.not_lt.2 c16)
      have H' := Aside0.mk H
      clear H
      have p4 : 0 ≤ (x4_1 : Int) := od_
      have q4 : x4_1 < (a0.size : Int) := od_
      have hx4 := bt_at a0 x4_1
      replace p4 := eq_true p4
      replace q4 := eq_true q4
      have p6 : 0 ≤ (x4_1 : Int) := od_
      have q6 : x4_1 < (a0.size : Int) := od_
      have hx6 := bt_at a0 x4_1
      replace p6 := eq_true p6
      replace q6 := eq_true q6
      go_wp2
      go_roundg k1
      case measure => have := HK1.out; omega
      case rel => exact ⟨(x3_1 ++ (a0.extract (x4_1 : Int).toNat ((wrap64 (x4_1 + 1)) : Int).toNat)), (wrap64 (x4_1 + 1)), eqs, eqs, H', ⟨by have := HK1.out; omega⟩, ⟨blw⟩⟩
    ·rw [if_neg c5] at H
     have c5b0 : decide (65 ≤ (bt a0 x4_1)) = false := decide_eq_false c5
     clear c5
     have c17b0 := eq_true (od_ : 0 ≤ x4_1)
     obtain ⟨c18, H⟩ := iteS H
     have c18b0 := eq_true c18
     have c18b1 := decide_eq_true c18
     obtain ⟨c19, H⟩ := iteS H
     have c19b0 := eq_true c19
     have c19b1 := decide_eq_true c19
     obtain ⟨c20, H⟩ := iteS H
     have c20b0 := eq_true c20
     have c20b1 := decide_eq_true c20
     (try (have c20x := c20; simp only [ByteArray.size_extract, Nat.min_self] at c20x; have c20xb0 := eq_true c20x; have c20xb1 := decide_eq_true c20x; (try have c20xb2 := eq_false (Nat.not_lt.2 c20x)); clear c20x))
     try have c20b2 := eq_false (Nat.not_lt.2 c20)
     have H' := Aside0.mk H
     clear H
     have p4 : 0 ≤ (x4_1 : Int) := od_
     have q4 : x4_1 < (a0.size : Int) := od_
     have hx4 := bt_at a0 x4_1
     replace p4 := eq_true p4
     replace q4 := eq_true q4
     go_wp2
     go_roundg k1
     case measure => have := HK1.out; omega
     case rel => exact ⟨(x3_1 ++ (a0.extract (x4_1 : Int).toNat ((wrap64 (x4_1 + 1)) : Int).toNat)), (wrap64 (x4_1 + 1)), eqs, eqs, H', ⟨by have := HK1.out; omega⟩, ⟨blw⟩⟩
   ·rw [if_neg c2] at H
    have c2b0 := decide_eq_false c2
    clear c2
    obtain rfl := Option.some.inj H
    go_wp2
    go_ret
    exact ⟨by first | rfl | (simp [errW_none, errW_some] <;> rfl) | (simp [*, errW_none, errW_some] <;> rfl), blw⟩

end Go.Proofs.YtcpmoolpbeeedaaGreatDoor.Q
