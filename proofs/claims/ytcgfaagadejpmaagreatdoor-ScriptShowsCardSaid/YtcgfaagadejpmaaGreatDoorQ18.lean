-- Written by a program of this session (wip/myprint) out of the translation, for YtcgfaagadejpmaaGreatDoor.
import Derived.Test.YtcgfaagadejpmaaGreatDoorQ0
import Derived.Test.YtcgfaagadejpmaaGreatDoorQ17
namespace Go.Proofs.YtcgfaagadejpmaaGreatDoor.Q
open Go.RowKit Go.Proofs.YtcgfaagadejpmaaGreatDoorW.PrintWords Go.Proofs.YtcgfaagadejpmaaGreatDoorW.PrintLast Go.Proofs.YtcgfaagadejpmaaGreatDoorW.PrintMore Go.Proofs.YtcgfaagadejpmaaGreatDoorW.PrintSq
attribute [local go_sem] max2_int min2_int max_two min_two max_three min_three max_four min_four   -- for this text's walks alone
set_option linter.unusedVariables false
set_option linter.unusedSimpArgs false

/-! ### bulletinref48_Show: function 9 -/
mutual
def bulletinref48_Show.j0 : Nat → Bool → Int → ByteArray → ByteArray → ByteArray → Int → Option (ByteArray)
  | 0, _, _, _, _, _, _ => none
  | k + 1, x11, x329000, x329001, x329002, x329003, x329004 => if x11 = true then (some (⟨#[]⟩ : ByteArray)) else ((bulletinref48_Verb.f x329000).bind fun t329 => (if x329000 = 3 then (if t329.size + 1 ≤ 9223372036854775807 then (if t329.size + 1 + x329001.size ≤ 9223372036854775807 then (if t329.size + 1 + x329001.size + 1 ≤ 9223372036854775807 then (if t329.size + 1 + x329001.size + 1 + x329002.size ≤ 9223372036854775807 then (if t329.size + 1 + x329001.size + 1 + x329002.size + 1 ≤ 9223372036854775807 then ((bulletinref48_Escape.f k x329003).bind fun t330 => (if t329.size + 1 + x329001.size + 1 + x329002.size + 1 + t330.size ≤ 9223372036854775807 then (some ((((((t329 ++ (⟨#[32]⟩ : ByteArray)) ++ x329001) ++ (⟨#[32]⟩ : ByteArray)) ++ x329002) ++ (⟨#[32]⟩ : ByteArray)) ++ t330)) else (none))) else (none)) else (none)) else (none)) else (none)) else (none)) else (if x329000 = 2 then (if t329.size + 1 ≤ 9223372036854775807 then ((bulletinref48_Escape.f k x329003).bind fun t331 => (if t329.size + 1 + t331.size ≤ 9223372036854775807 then (some ((t329 ++ (⟨#[32]⟩ : ByteArray)) ++ t331)) else (none))) else (none)) else (if x329000 = 4 then (if t329.size + 1 ≤ 9223372036854775807 then (if t329.size + 1 + x329002.size ≤ 9223372036854775807 then (if t329.size + 1 + x329002.size + 1 ≤ 9223372036854775807 then (if t329.size + 1 + x329002.size + 1 + x329003.size ≤ 9223372036854775807 then (some ((((t329 ++ (⟨#[32]⟩ : ByteArray)) ++ x329002) ++ (⟨#[32]⟩ : ByteArray)) ++ x329003)) else (none)) else (none)) else (none)) else (none)) else (if x329000 = 8 then (if t329.size + 1 ≤ 9223372036854775807 then (if t329.size + 1 + x329002.size ≤ 9223372036854775807 then (if t329.size + 1 + x329002.size + 1 ≤ 9223372036854775807 then (if t329.size + 1 + x329002.size + 1 + x329001.size ≤ 9223372036854775807 then (some ((((t329 ++ (⟨#[32]⟩ : ByteArray)) ++ x329002) ++ (⟨#[32]⟩ : ByteArray)) ++ x329001)) else (none)) else (none)) else (none)) else (none)) else (if x329000 = 13 then (if t329.size + 1 ≤ 9223372036854775807 then (if t329.size + 1 + x329003.size ≤ 9223372036854775807 then (if t329.size + 1 + x329003.size + 1 ≤ 9223372036854775807 then ((bulletinref07_Number.f k x329004).bind fun t332 => (if t329.size + 1 + x329003.size + 1 + t332.size ≤ 9223372036854775807 then (some ((((t329 ++ (⟨#[32]⟩ : ByteArray)) ++ x329003) ++ (⟨#[32]⟩ : ByteArray)) ++ t332)) else (none))) else (none)) else (none)) else (none)) else (if x329000 = 11 then (bulletinref48_Show.j1 k t329 true x329000 x329001 x329002 x329003 x329004) else (bulletinref48_Show.j1 k t329 (x329000 == 12) x329000 x329001 x329002 x329003 x329004))))))))
def bulletinref48_Show.j1 : Nat → ByteArray → Bool → Int → ByteArray → ByteArray → ByteArray → Int → Option (ByteArray)
  | 0, _, _, _, _, _, _, _ => none
  | k + 1, x3, x85, x329000, x329001, x329002, x329003, x329004 => if x85 = true then (if x329004 = 1 then (if x3.size + 4 ≤ 9223372036854775807 then (some (x3 ++ (⟨#[32, 121, 101, 115]⟩ : ByteArray))) else (none)) else (if x3.size + 3 ≤ 9223372036854775807 then (some (x3 ++ (⟨#[32, 110, 111]⟩ : ByteArray))) else (none))) else (if x329000 = 1 then (some x3) else (if x3.size + 1 ≤ 9223372036854775807 then ((bulletinref07_Number.f k x329004).bind fun t333 => (if x3.size + 1 + t333.size ≤ 9223372036854775807 then (some ((x3 ++ (⟨#[32]⟩ : ByteArray)) ++ t333)) else (none))) else (none)))
end
def bulletinref48_Show.f (k : Nat) (a0_0 : Int) (a0_1 : ByteArray) (a0_2 : ByteArray) (a0_3 : ByteArray) (a0_4 : Int) : Option (ByteArray) := if a0_0 < 1 then (bulletinref48_Show.j0 k true a0_0 a0_1 a0_2 a0_3 a0_4) else (bulletinref48_Show.j0 k (decide (a0_0 > 13)) a0_0 a0_1 a0_2 a0_3 a0_4)
theorem bulletinref48_Show.mono_l : ∀ k, (∀ y0 y1 y2 y3 y4 y5, LeO (bulletinref48_Show.j0 k y0 y1 y2 y3 y4 y5) (bulletinref48_Show.j0 (k + 1) y0 y1 y2 y3 y4 y5)) ∧ (∀ y0 y1 y2 y3 y4 y5 y6, LeO (bulletinref48_Show.j1 k y0 y1 y2 y3 y4 y5 y6) (bulletinref48_Show.j1 (k + 1) y0 y1 y2 y3 y4 y5 y6))
  | 0 => ⟨fun _ _ _ _ _ _ r h => by simp [bulletinref48_Show.j0] at h, fun _ _ _ _ _ _ _ r h => by simp [bulletinref48_Show.j1] at h⟩
  | k + 1 => by
    obtain ⟨ih0, ih1⟩ := bulletinref48_Show.mono_l k
    refine ⟨?_, ?_⟩
    · intro y0 y1 y2 y3 y4 y5
      unfold bulletinref48_Show.j0
      repeat' first | (with_reducible first | exact ih0 _ _ _ _ _ _ | exact ih1 _ _ _ _ _ _ _ | exact bulletinref07_Number.mono _ _ | exact bulletinref48_Escape.mono _ _ | exact LeO.refl _ | exact LeO.none _ | refine LeO.ite ?_ ?_ | refine LeO.bind ?_ (fun _ => ?_)) | exact ih0 _ _ _ _ _ _ | exact ih1 _ _ _ _ _ _ _ | exact bulletinref07_Number.mono _ _ | exact bulletinref48_Escape.mono _ _ | exact LeO.none _ | refine LeO.ite ?_ ?_ | refine LeO.bind ?_ (fun _ => ?_)
    · intro y0 y1 y2 y3 y4 y5 y6
      unfold bulletinref48_Show.j1
      repeat' first | (with_reducible first | exact ih0 _ _ _ _ _ _ | exact ih1 _ _ _ _ _ _ _ | exact bulletinref07_Number.mono _ _ | exact bulletinref48_Escape.mono _ _ | exact LeO.refl _ | exact LeO.none _ | refine LeO.ite ?_ ?_ | refine LeO.bind ?_ (fun _ => ?_)) | exact ih0 _ _ _ _ _ _ | exact ih1 _ _ _ _ _ _ _ | exact bulletinref07_Number.mono _ _ | exact bulletinref48_Escape.mono _ _ | exact LeO.none _ | refine LeO.ite ?_ ?_ | refine LeO.bind ?_ (fun _ => ?_)
theorem bulletinref48_Show.mono : ∀ a0 a1 a2 a3 a4 k, LeO (bulletinref48_Show.f k a0 a1 a2 a3 a4) (bulletinref48_Show.f (k + 1) a0 a1 a2 a3 a4) := by
  intro a0 a1 a2 a3 a4 k
  obtain ⟨ih0, ih1⟩ := bulletinref48_Show.mono_l k
  unfold bulletinref48_Show.f
  repeat' first | (with_reducible first | exact ih0 _ _ _ _ _ _ | exact ih1 _ _ _ _ _ _ _ | exact bulletinref07_Number.mono _ _ | exact bulletinref48_Escape.mono _ _ | exact LeO.refl _ | exact LeO.none _ | refine LeO.ite ?_ ?_ | refine LeO.bind ?_ (fun _ => ?_)) | exact ih0 _ _ _ _ _ _ | exact ih1 _ _ _ _ _ _ _ | exact bulletinref07_Number.mono _ _ | exact bulletinref48_Escape.mono _ _ | exact LeO.none _ | refine LeO.ite ?_ ?_ | refine LeO.bind ?_ (fun _ => ?_)
def bulletinref48_Show.T5 : Bool × List (List Nat × List Nat) := (true, [([], []), ([0], [0]), ([], []), ([2], [2]), ([1, 3], [1, 3]), ([4], [4]), ([], []), ([6], [6]), ([5, 7], [5, 7]), ([8], [8]), ([], []), ([10], [10]), ([11], [11]), ([9, 12], [9, 12]), ([13, 12, 0, 1, 2, 3, 4, 5, 6, 7, 8, 9, 10, 11, 12, 13], [13])])
def bulletinref48_Show.B5 : List Nat := [0, 1, 0, 4, 15, 31, 0, 64, 255, 511, 0, 1024, 3072, 8191, 16383]
theorem bulletinref48_Show.tab5 : rtab .any (opsOf Tryz.f9 5) = bulletinref48_Show.T5 := by kernel_rfl
theorem bulletinref48_Show.bits5 : waitsOk bulletinref48_Show.T5.2 bulletinref48_Show.B5 = true := by kernel_rfl
def bulletinref48_Show.T13 : Bool × List (List Nat × List Nat) := (true, [([], []), ([0], [0]), ([], []), ([2], [2]), ([1, 3], [1, 3]), ([4], [4]), ([], []), ([6], [6]), ([7], [7]), ([5, 8], [5, 8]), ([9, 8, 0, 1, 2, 3, 4, 5, 6, 7, 8, 9], [9])])
def bulletinref48_Show.B13 : List Nat := [0, 1, 0, 4, 15, 31, 0, 64, 192, 511, 1023]
theorem bulletinref48_Show.tab13 : rtab .any (opsOf Tryz.f9 13) = bulletinref48_Show.T13 := by kernel_rfl
theorem bulletinref48_Show.bits13 : waitsOk bulletinref48_Show.T13.2 bulletinref48_Show.B13 = true := by kernel_rfl
set_option maxHeartbeats 8000000 in
set_option maxRecDepth 100000 in
theorem bulletinref48_Show.calls (k : Nat) (a0_0 : Int) (a0_1 : ByteArray) (a0_2 : ByteArray) (a0_3 : ByteArray) (a0_4 : Int) (r : ByteArray) (w : World) (h : bulletinref48_Show.f k a0_0 a0_1 a0_2 a0_3 a0_4 = some r) :
    Calls Tryz.prog 9 #[.agg #[.int .i64 a0_0, .string a0_1, .string a0_2, .string a0_3, .int .i64 a0_4]] w fun e w' => e = .returned (.string r) ∧ Below w.heap.size w w' := by
 have hu23 := Tryz.underlying23
 have HB := Aside0.mk (Below.refl w.heap.size w)
 unfold bulletinref48_Show.f at h
 have H := h
 clear h
 have HC2 := Aside0.mk H
 clear H
 go_enter Tryz.func9, Tryz.ntmps9
 go_upto_region 1 with (first | ((with_reducible refine gate_dst (N := 1) rfl ?_); refine box_event ?hg (N := 1) ?hd (cs := #[.int .i64 a0_0, .string a0_1, .string a0_2, .string a0_3, .int .i64 a0_4]) (t := 23) ?hr ?_; (case hd => rfl); (case hg => rfl); (case hr => first | (go_simp; done) | (go_simp; rfl)); intro gb328 hg w3 hbox hb; have BK328 := Aside0.mk (hbox); have GW328 : Aside0 (w.heap.size ≤ gb328) := gw_ hg; have GE328 : Aside0 (w.heap.size ≤ gb328) := gw_ hg; replace HB := Aside0.mk (below_step blw hb); clear hb hbox hg))
 (try simp only [Act.put, List.setIfInBounds_toArray, List.set_cons_zero, List.set_cons_succ])
 go_cut [11] (fun v11 wc => ∃ (kq : Nat) (x11_1 : Bool), v11 = .bool x11_1 ∧ Aside0 (bulletinref48_Show.j0 kq x11_1 a0_0 a0_1 a0_2 a0_3 a0_4 = some r) ∧ Aside0 (kq ≤ k) ∧ Aside0 (wc.heap[gb328]? = some (.cells #[.int .i64 a0_0, .string a0_1, .string a0_2, .string a0_3, .int .i64 a0_4] 23 (0, 0))) ∧ Aside0 (Below w.heap.size w wc))
 case first =>
  have H := HC2.out
  clear HC2
  by_cases c4 : a0_0 < 1
  ·rw [if_pos c4] at H
   have c4b0 := decide_eq_true c4
   clear c4
   (first | rw [c4b0] | (simp only [i64_w, i32_w]; rw [c4b0]) | skip)
   have H' := Aside0.mk H
   clear H
   have hcz5_0 : w3.cell? ⟨gb328, 0, none⟩ = some (.int .i64 a0_0) := bk_ BK328
   have hcz5_1 : w3.cell? ⟨gb328, 1, none⟩ = some (.string a0_1) := bk_ BK328
   have hcz5_2 : w3.cell? ⟨gb328, 2, none⟩ = some (.string a0_2) := bk_ BK328
   have hcz5_3 : w3.cell? ⟨gb328, 3, none⟩ = some (.string a0_3) := bk_ BK328
   have hcz5_4 : w3.cell? ⟨gb328, 4, none⟩ = some (.int .i64 a0_4) := bk_ BK328
   have hfz5_0 := blk_frozen BK328.out 0
   have hfz5_1 := blk_frozen BK328.out 1
   have hfz5_2 := blk_frozen BK328.out 2
   have hfz5_3 := blk_frozen BK328.out 3
   have hfz5_4 := blk_frozen BK328.out 4
   go_wp2
   go_meet
   case rel => exact ⟨_, (true), eqs, H', omk, ⟨bkw BK328⟩, ⟨blw⟩⟩
  ·rw [if_neg c4] at H
   have c4b0 := decide_eq_false c4
   clear c4
   (first | rw [c4b0] | (simp only [i64_w, i32_w]; rw [c4b0]) | skip)
   have H' := Aside0.mk H
   clear H
   have hcz6_0 : w3.cell? ⟨gb328, 0, none⟩ = some (.int .i64 a0_0) := bk_ BK328
   have hcz6_1 : w3.cell? ⟨gb328, 1, none⟩ = some (.string a0_1) := bk_ BK328
   have hcz6_2 : w3.cell? ⟨gb328, 2, none⟩ = some (.string a0_2) := bk_ BK328
   have hcz6_3 : w3.cell? ⟨gb328, 3, none⟩ = some (.string a0_3) := bk_ BK328
   have hcz6_4 : w3.cell? ⟨gb328, 4, none⟩ = some (.int .i64 a0_4) := bk_ BK328
   have hfz6_0 := blk_frozen BK328.out 0
   have hfz6_1 := blk_frozen BK328.out 1
   have hfz6_2 := blk_frozen BK328.out 2
   have hfz6_3 := blk_frozen BK328.out 3
   have hfz6_4 := blk_frozen BK328.out 4
   go_wp2
   go_meet
   case rel => exact ⟨_, (decide (a0_0 > 13)), eqs, H', omk, ⟨bkw BK328⟩, ⟨blw⟩⟩
 case rest =>
  clear HC2
  try clear p2
  try clear c4
  try clear c4b0
  try clear hcz5_0 hcz5_1 hcz5_2 hcz5_3 hcz5_4
  try clear hcz6_0 hcz6_1 hcz6_2 hcz6_3 hcz6_4
  try clear hfz5_0 hfz5_1 hfz5_2 hfz5_3 hfz5_4
  try clear hfz6_0 hfz6_1 hfz6_2 hfz6_3 hfz6_4
  obtain ⟨kq, x11_1, rfl, HA, HJ1, BK328, HB⟩ := hcut
  cases kq with
  | zero => exact absurd HA.out (by simp [bulletinref48_Show.j0])
  | succ kj1 =>
   have H := HA.out
   clear HA
   simp only [bulletinref48_Show.j0] at H
   by_cases c7 : x11_1 = true
   ·subst c7
    rw [if_pos rfl] at H
    obtain rfl := Option.some.inj H
    go_wp2
    go_ret
    exact ⟨by first | rfl | (simp [errW_none, errW_some] <;> rfl) | (simp [*, errW_none, errW_some] <;> rfl), blw⟩
   ·replace c7 := Bool.eq_false_iff.mpr c7
    subst c7
    rw [if_neg nft] at H
    replace H := Option.bind_eq_some_iff.mp H
    obtain ⟨t329, A80, H⟩ := H
    try dsimp only at H
    have A8 := Aside0.mk A80
    clear A80
    by_cases c9 : a0_0 = 3
    ·rw [if_pos c9] at H
     have c9b0 := beq_iff_eq.mpr c9
     have c9b1 := bne_eq_false_iff_eq.mpr c9
     clear c9
     obtain ⟨c10, H⟩ := iteS H
     have c10b0 := eq_true c10
     have c10b1 := decide_eq_true c10
     try have c10b2 := eq_false (Nat.not_lt.2 c10)
     obtain ⟨c11, H⟩ := iteS H
     have c11b0 := eq_true c11
     have c11b1 := decide_eq_true c11
     try have c11b2 := eq_false (Nat.not_lt.2 c11)
     obtain ⟨c12, H⟩ := iteS H
     have c12b0 := eq_true c12
     have c12b1 := decide_eq_true c12
     try have c12b2 := eq_false (Nat.not_lt.2 c12)
     obtain ⟨c13, H⟩ := iteS H
     have c13b0 := eq_true c13
     have c13b1 := decide_eq_true c13
     try have c13b2 := eq_false (Nat.not_lt.2 c13)
     obtain ⟨c14, H⟩ := iteS H
     have c14b0 := eq_true c14
     have c14b1 := decide_eq_true c14
     try have c14b2 := eq_false (Nat.not_lt.2 c14)
     replace H := Option.bind_eq_some_iff.mp H
     obtain ⟨t330, A150, H⟩ := H
     try dsimp only at H
     have A15 := Aside0.mk A150
     clear A150
     obtain ⟨c16, H⟩ := iteS H
     have c16b0 := eq_true c16
     have c16b1 := decide_eq_true c16
     try have c16b2 := eq_false (Nat.not_lt.2 c16)
     obtain rfl := Option.some.inj H
     have hcz17_0 : wc.cell? ⟨gb328, 0, none⟩ = some (.int .i64 a0_0) := bk_ BK328
     have hcz17_1 : wc.cell? ⟨gb328, 1, none⟩ = some (.string a0_1) := bk_ BK328
     have hcz17_2 : wc.cell? ⟨gb328, 2, none⟩ = some (.string a0_2) := bk_ BK328
     have hcz17_3 : wc.cell? ⟨gb328, 3, none⟩ = some (.string a0_3) := bk_ BK328
     have hcz17_4 : wc.cell? ⟨gb328, 4, none⟩ = some (.int .i64 a0_4) := bk_ BK328
     have hfz17_0 := blk_frozen BK328.out 0
     have hfz17_1 := blk_frozen BK328.out 1
     have hfz17_2 := blk_frozen BK328.out 2
     have hfz17_3 := blk_frozen BK328.out 3
     have hfz17_4 := blk_frozen BK328.out 4
     try go_wp2_with (first | ((with_reducible refine gc 16 rfl ?_); refine cl_ (some 14) Tryz.func16 (bulletinref48_Verb.calls a0_0 t329 _ A8.out) ?_; rintro w18 hb; replace BK328 := Aside0.mk (blk_below (g := gb328) (o := .cells #[.int .i64 a0_0, .string a0_1, .string a0_2, .string a0_3, .int .i64 a0_4] 23 (0, 0)) (bkw BK328) hb); replace HB := Aside0.mk (below_step blw hb); (try clear hb); have hcz19_0 : w18.cell? ⟨gb328, 0, none⟩ = some (.int .i64 a0_0) := bk_ BK328; have hcz19_1 : w18.cell? ⟨gb328, 1, none⟩ = some (.string a0_1) := bk_ BK328; have hcz19_2 : w18.cell? ⟨gb328, 2, none⟩ = some (.string a0_2) := bk_ BK328; have hcz19_3 : w18.cell? ⟨gb328, 3, none⟩ = some (.string a0_3) := bk_ BK328; have hcz19_4 : w18.cell? ⟨gb328, 4, none⟩ = some (.int .i64 a0_4) := bk_ BK328; have hfz19_0 := blk_frozen BK328.out 0; have hfz19_1 := blk_frozen BK328.out 1; have hfz19_2 := blk_frozen BK328.out 2; have hfz19_3 := blk_frozen BK328.out 3; have hfz19_4 := blk_frozen BK328.out 4))
     replace BK328 := Aside0.mk (blk_drew BK328.out)
     replace HB := Aside0.mk (below_drew1 HB.out)
     refine start_ (n := 15) (S := fun w' => w'.cell? ⟨gb328, 0, none⟩ = some (.int .i64 a0_0) ∧ w'.cell? ⟨gb328, 1, none⟩ = some (.string a0_1) ∧ w'.cell? ⟨gb328, 2, none⟩ = some (.string a0_2) ∧ w'.cell? ⟨gb328, 3, none⟩ = some (.string a0_3) ∧ w'.cell? ⟨gb328, 4, none⟩ = some (.int .i64 a0_4)) (ds := []) (ba 15 0) (by kernel_rfl) rfl rfl ⟨bk_ BK328, bk_ BK328, bk_ BK328, bk_ BK328, bk_ BK328⟩ (fun hHeld => ?_); refine with_tabW bulletinref48_Show.tab5 bulletinref48_Show.bits5 (fun HT_ HW_ => ?_)
     generalize w18.drew = w20 at BK328 HB hHeld ⊢
     refine pu_ 0 18 1 ?_
     refine pu_ 1 19 3 ?_
     refine pu_ 2 20 7 ?_
     refine pu_ 6 24 71 ?_
     refine pu_ 10 28 1095 ?_
     refine tk_ 3 21 1103 hHeld ?_
     refine pu_ 4 22 1119 ?_
     refine pu_ 5 23 1151 ?_
     refine tk_ 7 25 1279 hHeld ?_
     refine pu_ 8 26 1535 ?_
     refine pu_ 9 27 2047 ?_
     refine tk_ 11 29 4095 hHeld ?_
     refine one1 12 (some 30) 8191 (fun K hK => ?_)
     refine go1 Tryz.func11 #[.string a0_3] ?_
     with_reducible refine (bulletinref48_Escape.calls kj1 a0_3 t330 _ A15.out).mono ?_
     rintro e w' ⟨rfl, ⟨nd, rfl⟩⟩
     refine ⟨_, rfl, ?_⟩
     refine hK.out _ _ ⟨bk_ BK328, bk_ BK328, bk_ BK328, bk_ BK328, bk_ BK328⟩ (fun hHeld => ?_)
     clear hK K
     refine nm_ (some 30) ?_
     refine pu_ 13 31 16383 ?_
     refine pu_ 14 2 32767 ?_
     refine done_ (done_of HT_.out (by kernel_rfl)) ?_
     try go_wp2
     go_ret
     exact ⟨by first | rfl | (simp [errW_none, errW_some] <;> rfl) | (simp [*, errW_none, errW_some] <;> rfl), blw⟩
    ·rw [if_neg c9] at H
     have c9b0 := beq_eq_false_iff_ne.mpr c9
     have c9b1 := bne_iff_ne.mpr c9
     by_cases c21 : a0_0 = 2
     ·rw [if_pos c21] at H
      have c21b0 := beq_iff_eq.mpr c21
      have c21b1 := bne_eq_false_iff_eq.mpr c21
      clear c21
      obtain ⟨c22, H⟩ := iteS H
      have c22b0 := eq_true c22
      have c22b1 := decide_eq_true c22
      try have c22b2 := eq_false (Nat.not_lt.2 c22)
      replace H := Option.bind_eq_some_iff.mp H
      obtain ⟨t331, A230, H⟩ := H
      try dsimp only at H
      have A23 := Aside0.mk A230
      clear A230
      obtain ⟨c24, H⟩ := iteS H
      have c24b0 := eq_true c24
      have c24b1 := decide_eq_true c24
      try have c24b2 := eq_false (Nat.not_lt.2 c24)
      obtain rfl := Option.some.inj H
      have hcz25_0 : wc.cell? ⟨gb328, 0, none⟩ = some (.int .i64 a0_0) := bk_ BK328
      have hcz25_1 : wc.cell? ⟨gb328, 1, none⟩ = some (.string a0_1) := bk_ BK328
      have hcz25_2 : wc.cell? ⟨gb328, 2, none⟩ = some (.string a0_2) := bk_ BK328
      have hcz25_3 : wc.cell? ⟨gb328, 3, none⟩ = some (.string a0_3) := bk_ BK328
      have hcz25_4 : wc.cell? ⟨gb328, 4, none⟩ = some (.int .i64 a0_4) := bk_ BK328
      have hfz25_0 := blk_frozen BK328.out 0
      have hfz25_1 := blk_frozen BK328.out 1
      have hfz25_2 := blk_frozen BK328.out 2
      have hfz25_3 := blk_frozen BK328.out 3
      have hfz25_4 := blk_frozen BK328.out 4
      go_wp2_with (first | ((with_reducible refine gc 16 rfl ?_); refine cl_ (some 14) Tryz.func16 (bulletinref48_Verb.calls a0_0 t329 _ A8.out) ?_; rintro w26 hb; replace BK328 := Aside0.mk (blk_below (g := gb328) (o := .cells #[.int .i64 a0_0, .string a0_1, .string a0_2, .string a0_3, .int .i64 a0_4] 23 (0, 0)) (bkw BK328) hb); replace HB := Aside0.mk (below_step blw hb); (try clear hb); have hcz27_0 : w26.cell? ⟨gb328, 0, none⟩ = some (.int .i64 a0_0) := bk_ BK328; have hcz27_1 : w26.cell? ⟨gb328, 1, none⟩ = some (.string a0_1) := bk_ BK328; have hcz27_2 : w26.cell? ⟨gb328, 2, none⟩ = some (.string a0_2) := bk_ BK328; have hcz27_3 : w26.cell? ⟨gb328, 3, none⟩ = some (.string a0_3) := bk_ BK328; have hcz27_4 : w26.cell? ⟨gb328, 4, none⟩ = some (.int .i64 a0_4) := bk_ BK328; have hfz27_0 := blk_frozen BK328.out 0; have hfz27_1 := blk_frozen BK328.out 1; have hfz27_2 := blk_frozen BK328.out 2; have hfz27_3 := blk_frozen BK328.out 3; have hfz27_4 := blk_frozen BK328.out 4) | ((with_reducible refine gc 11 rfl ?_); refine cl_ (some 39) Tryz.func11 (bulletinref48_Escape.calls kj1 a0_3 t331 _ A23.out) ?_; rintro w' ⟨nd, rfl⟩))
      go_ret
      exact ⟨by first | rfl | (simp [errW_none, errW_some] <;> rfl) | (simp [*, errW_none, errW_some] <;> rfl), blw⟩
     ·rw [if_neg c21] at H
      have c21b0 := beq_eq_false_iff_ne.mpr c21
      have c21b1 := bne_iff_ne.mpr c21
      by_cases c28 : a0_0 = 4
      ·rw [if_pos c28] at H
       have c28b0 := beq_iff_eq.mpr c28
       have c28b1 := bne_eq_false_iff_eq.mpr c28
       clear c28
       obtain ⟨c29, H⟩ := iteS H
       have c29b0 := eq_true c29
       have c29b1 := decide_eq_true c29
       try have c29b2 := eq_false (Nat.not_lt.2 c29)
       obtain ⟨c30, H⟩ := iteS H
       have c30b0 := eq_true c30
       have c30b1 := decide_eq_true c30
       try have c30b2 := eq_false (Nat.not_lt.2 c30)
       obtain ⟨c31, H⟩ := iteS H
       have c31b0 := eq_true c31
       have c31b1 := decide_eq_true c31
       try have c31b2 := eq_false (Nat.not_lt.2 c31)
       obtain ⟨c32, H⟩ := iteS H
       have c32b0 := eq_true c32
       have c32b1 := decide_eq_true c32
       try have c32b2 := eq_false (Nat.not_lt.2 c32)
       obtain rfl := Option.some.inj H
       have hcz33_0 : wc.cell? ⟨gb328, 0, none⟩ = some (.int .i64 a0_0) := bk_ BK328
       have hcz33_1 : wc.cell? ⟨gb328, 1, none⟩ = some (.string a0_1) := bk_ BK328
       have hcz33_2 : wc.cell? ⟨gb328, 2, none⟩ = some (.string a0_2) := bk_ BK328
       have hcz33_3 : wc.cell? ⟨gb328, 3, none⟩ = some (.string a0_3) := bk_ BK328
       have hcz33_4 : wc.cell? ⟨gb328, 4, none⟩ = some (.int .i64 a0_4) := bk_ BK328
       have hfz33_0 := blk_frozen BK328.out 0
       have hfz33_1 := blk_frozen BK328.out 1
       have hfz33_2 := blk_frozen BK328.out 2
       have hfz33_3 := blk_frozen BK328.out 3
       have hfz33_4 := blk_frozen BK328.out 4
       go_wp2_with (first | ((with_reducible refine gc 16 rfl ?_); refine cl_ (some 14) Tryz.func16 (bulletinref48_Verb.calls a0_0 t329 _ A8.out) ?_; rintro w34 hb; replace BK328 := Aside0.mk (blk_below (g := gb328) (o := .cells #[.int .i64 a0_0, .string a0_1, .string a0_2, .string a0_3, .int .i64 a0_4] 23 (0, 0)) (bkw BK328) hb); replace HB := Aside0.mk (below_step blw hb); (try clear hb); have hcz35_0 : w34.cell? ⟨gb328, 0, none⟩ = some (.int .i64 a0_0) := bk_ BK328; have hcz35_1 : w34.cell? ⟨gb328, 1, none⟩ = some (.string a0_1) := bk_ BK328; have hcz35_2 : w34.cell? ⟨gb328, 2, none⟩ = some (.string a0_2) := bk_ BK328; have hcz35_3 : w34.cell? ⟨gb328, 3, none⟩ = some (.string a0_3) := bk_ BK328; have hcz35_4 : w34.cell? ⟨gb328, 4, none⟩ = some (.int .i64 a0_4) := bk_ BK328; have hfz35_0 := blk_frozen BK328.out 0; have hfz35_1 := blk_frozen BK328.out 1; have hfz35_2 := blk_frozen BK328.out 2; have hfz35_3 := blk_frozen BK328.out 3; have hfz35_4 := blk_frozen BK328.out 4))
       go_ret
       exact ⟨by first | rfl | (simp [errW_none, errW_some] <;> rfl) | (simp [*, errW_none, errW_some] <;> rfl), blw⟩
      ·rw [if_neg c28] at H
       have c28b0 := beq_eq_false_iff_ne.mpr c28
       have c28b1 := bne_iff_ne.mpr c28
       by_cases c36 : a0_0 = 8
       ·rw [if_pos c36] at H
        have c36b0 := beq_iff_eq.mpr c36
        have c36b1 := bne_eq_false_iff_eq.mpr c36
        clear c36
        obtain ⟨c37, H⟩ := iteS H
        have c37b0 := eq_true c37
        have c37b1 := decide_eq_true c37
        try have c37b2 := eq_false (Nat.not_lt.2 c37)
        obtain ⟨c38, H⟩ := iteS H
        have c38b0 := eq_true c38
        have c38b1 := decide_eq_true c38
        try have c38b2 := eq_false (Nat.not_lt.2 c38)
        obtain ⟨c39, H⟩ := iteS H
        have c39b0 := eq_true c39
        have c39b1 := decide_eq_true c39
        try have c39b2 := eq_false (Nat.not_lt.2 c39)
        obtain ⟨c40, H⟩ := iteS H
        have c40b0 := eq_true c40
        have c40b1 := decide_eq_true c40
        try have c40b2 := eq_false (Nat.not_lt.2 c40)
        obtain rfl := Option.some.inj H
        have hcz41_0 : wc.cell? ⟨gb328, 0, none⟩ = some (.int .i64 a0_0) := bk_ BK328
        have hcz41_1 : wc.cell? ⟨gb328, 1, none⟩ = some (.string a0_1) := bk_ BK328
        have hcz41_2 : wc.cell? ⟨gb328, 2, none⟩ = some (.string a0_2) := bk_ BK328
        have hcz41_3 : wc.cell? ⟨gb328, 3, none⟩ = some (.string a0_3) := bk_ BK328
        have hcz41_4 : wc.cell? ⟨gb328, 4, none⟩ = some (.int .i64 a0_4) := bk_ BK328
        have hfz41_0 := blk_frozen BK328.out 0
        have hfz41_1 := blk_frozen BK328.out 1
        have hfz41_2 := blk_frozen BK328.out 2
        have hfz41_3 := blk_frozen BK328.out 3
        have hfz41_4 := blk_frozen BK328.out 4
        go_wp2_with (first | ((with_reducible refine gc 16 rfl ?_); refine cl_ (some 14) Tryz.func16 (bulletinref48_Verb.calls a0_0 t329 _ A8.out) ?_; rintro w42 hb; replace BK328 := Aside0.mk (blk_below (g := gb328) (o := .cells #[.int .i64 a0_0, .string a0_1, .string a0_2, .string a0_3, .int .i64 a0_4] 23 (0, 0)) (bkw BK328) hb); replace HB := Aside0.mk (below_step blw hb); (try clear hb); have hcz43_0 : w42.cell? ⟨gb328, 0, none⟩ = some (.int .i64 a0_0) := bk_ BK328; have hcz43_1 : w42.cell? ⟨gb328, 1, none⟩ = some (.string a0_1) := bk_ BK328; have hcz43_2 : w42.cell? ⟨gb328, 2, none⟩ = some (.string a0_2) := bk_ BK328; have hcz43_3 : w42.cell? ⟨gb328, 3, none⟩ = some (.string a0_3) := bk_ BK328; have hcz43_4 : w42.cell? ⟨gb328, 4, none⟩ = some (.int .i64 a0_4) := bk_ BK328; have hfz43_0 := blk_frozen BK328.out 0; have hfz43_1 := blk_frozen BK328.out 1; have hfz43_2 := blk_frozen BK328.out 2; have hfz43_3 := blk_frozen BK328.out 3; have hfz43_4 := blk_frozen BK328.out 4))
        go_ret
        exact ⟨by first | rfl | (simp [errW_none, errW_some] <;> rfl) | (simp [*, errW_none, errW_some] <;> rfl), blw⟩
       ·rw [if_neg c36] at H
        have c36b0 := beq_eq_false_iff_ne.mpr c36
        have c36b1 := bne_iff_ne.mpr c36
        by_cases c44 : a0_0 = 13
        ·rw [if_pos c44] at H
         have c44b0 := beq_iff_eq.mpr c44
         have c44b1 := bne_eq_false_iff_eq.mpr c44
         clear c44
         obtain ⟨c45, H⟩ := iteS H
         have c45b0 := eq_true c45
         have c45b1 := decide_eq_true c45
         try have c45b2 := eq_false (Nat.not_lt.2 c45)
         obtain ⟨c46, H⟩ := iteS H
         have c46b0 := eq_true c46
         have c46b1 := decide_eq_true c46
         try have c46b2 := eq_false (Nat.not_lt.2 c46)
         obtain ⟨c47, H⟩ := iteS H
         have c47b0 := eq_true c47
         have c47b1 := decide_eq_true c47
         try have c47b2 := eq_false (Nat.not_lt.2 c47)
         replace H := Option.bind_eq_some_iff.mp H
         obtain ⟨t332, A480, H⟩ := H
         try dsimp only at H
         have A48 := Aside0.mk A480
         clear A480
         obtain ⟨c49, H⟩ := iteS H
         have c49b0 := eq_true c49
         have c49b1 := decide_eq_true c49
         try have c49b2 := eq_false (Nat.not_lt.2 c49)
         obtain rfl := Option.some.inj H
         have hcz50_0 : wc.cell? ⟨gb328, 0, none⟩ = some (.int .i64 a0_0) := bk_ BK328
         have hcz50_1 : wc.cell? ⟨gb328, 1, none⟩ = some (.string a0_1) := bk_ BK328
         have hcz50_2 : wc.cell? ⟨gb328, 2, none⟩ = some (.string a0_2) := bk_ BK328
         have hcz50_3 : wc.cell? ⟨gb328, 3, none⟩ = some (.string a0_3) := bk_ BK328
         have hcz50_4 : wc.cell? ⟨gb328, 4, none⟩ = some (.int .i64 a0_4) := bk_ BK328
         have hfz50_0 := blk_frozen BK328.out 0
         have hfz50_1 := blk_frozen BK328.out 1
         have hfz50_2 := blk_frozen BK328.out 2
         have hfz50_3 := blk_frozen BK328.out 3
         have hfz50_4 := blk_frozen BK328.out 4
         try go_wp2_with (first | ((with_reducible refine gc 16 rfl ?_); refine cl_ (some 14) Tryz.func16 (bulletinref48_Verb.calls a0_0 t329 _ A8.out) ?_; rintro w51 hb; replace BK328 := Aside0.mk (blk_below (g := gb328) (o := .cells #[.int .i64 a0_0, .string a0_1, .string a0_2, .string a0_3, .int .i64 a0_4] 23 (0, 0)) (bkw BK328) hb); replace HB := Aside0.mk (below_step blw hb); (try clear hb); have hcz52_0 : w51.cell? ⟨gb328, 0, none⟩ = some (.int .i64 a0_0) := bk_ BK328; have hcz52_1 : w51.cell? ⟨gb328, 1, none⟩ = some (.string a0_1) := bk_ BK328; have hcz52_2 : w51.cell? ⟨gb328, 2, none⟩ = some (.string a0_2) := bk_ BK328; have hcz52_3 : w51.cell? ⟨gb328, 3, none⟩ = some (.string a0_3) := bk_ BK328; have hcz52_4 : w51.cell? ⟨gb328, 4, none⟩ = some (.int .i64 a0_4) := bk_ BK328; have hfz52_0 := blk_frozen BK328.out 0; have hfz52_1 := blk_frozen BK328.out 1; have hfz52_2 := blk_frozen BK328.out 2; have hfz52_3 := blk_frozen BK328.out 3; have hfz52_4 := blk_frozen BK328.out 4))
         replace BK328 := Aside0.mk (blk_drew BK328.out)
         replace HB := Aside0.mk (below_drew1 HB.out)
         refine start_ (n := 11) (S := fun w' => w'.cell? ⟨gb328, 0, none⟩ = some (.int .i64 a0_0) ∧ w'.cell? ⟨gb328, 1, none⟩ = some (.string a0_1) ∧ w'.cell? ⟨gb328, 2, none⟩ = some (.string a0_2) ∧ w'.cell? ⟨gb328, 3, none⟩ = some (.string a0_3) ∧ w'.cell? ⟨gb328, 4, none⟩ = some (.int .i64 a0_4)) (ds := []) (ba 11 0) (by kernel_rfl) rfl rfl ⟨bk_ BK328, bk_ BK328, bk_ BK328, bk_ BK328, bk_ BK328⟩ (fun hHeld => ?_); refine with_tabW bulletinref48_Show.tab13 bulletinref48_Show.bits13 (fun HT_ HW_ => ?_)
         generalize w51.drew = w53 at BK328 HB hHeld ⊢
         refine pu_ 0 68 1 ?_
         refine pu_ 1 69 3 ?_
         refine pu_ 2 70 7 ?_
         refine pu_ 6 74 71 ?_
         refine tk_ 3 71 79 hHeld ?_
         refine pu_ 4 72 95 ?_
         refine pu_ 5 73 127 ?_
         refine tk_ 7 75 255 hHeld ?_
         refine one1 8 (some 76) 511 (fun K hK => ?_)
         refine go1 Tryz.func17 #[.int .i64 a0_4] ?_
         with_reducible refine (bulletinref07_Number.calls kj1 a0_4 t332 _ A48.out).mono ?_
         rintro e w54 ⟨rfl, hb⟩
         refine ⟨_, rfl, ?_⟩
         replace BK328 := Aside0.mk (blk_below (g := gb328) (o := .cells #[.int .i64 a0_0, .string a0_1, .string a0_2, .string a0_3, .int .i64 a0_4] 23 (0, 0)) (bkw BK328) hb)
         replace HB := Aside0.mk (below_step blw hb)
         (try clear hb)
         refine hK.out _ _ ⟨bk_ BK328, bk_ BK328, bk_ BK328, bk_ BK328, bk_ BK328⟩ (fun hHeld => ?_)
         clear hK K
         refine nm_ (some 76) ?_
         refine pu_ 9 77 1023 ?_
         refine pu_ 10 2 2047 ?_
         refine done_ (done_of HT_.out (by kernel_rfl)) ?_
         try go_wp2
         go_ret
         exact ⟨by first | rfl | (simp [errW_none, errW_some] <;> rfl) | (simp [*, errW_none, errW_some] <;> rfl), blw⟩
        ·rw [if_neg c44] at H
         have c44b0 := beq_eq_false_iff_ne.mpr c44
         have c44b1 := bne_iff_ne.mpr c44
         have HC55 := Aside0.mk H
         clear H
         have hcz56_0 : wc.cell? ⟨gb328, 0, none⟩ = some (.int .i64 a0_0) := bk_ BK328
         have hcz56_1 : wc.cell? ⟨gb328, 1, none⟩ = some (.string a0_1) := bk_ BK328
         have hcz56_2 : wc.cell? ⟨gb328, 2, none⟩ = some (.string a0_2) := bk_ BK328
         have hcz56_3 : wc.cell? ⟨gb328, 3, none⟩ = some (.string a0_3) := bk_ BK328
         have hcz56_4 : wc.cell? ⟨gb328, 4, none⟩ = some (.int .i64 a0_4) := bk_ BK328
         have hfz56_0 := blk_frozen BK328.out 0
         have hfz56_1 := blk_frozen BK328.out 1
         have hfz56_2 := blk_frozen BK328.out 2
         have hfz56_3 := blk_frozen BK328.out 3
         have hfz56_4 := blk_frozen BK328.out 4
         go_upto_region 14 with (first | ((with_reducible refine gc 16 rfl ?_); refine cl_ (some 14) Tryz.func16 (bulletinref48_Verb.calls a0_0 t329 _ A8.out) ?_; rintro w57 hb; replace BK328 := Aside0.mk (blk_below (g := gb328) (o := .cells #[.int .i64 a0_0, .string a0_1, .string a0_2, .string a0_3, .int .i64 a0_4] 23 (0, 0)) (bkw BK328) hb); replace HB := Aside0.mk (below_step blw hb); (try clear hb); have hcz58_0 : w57.cell? ⟨gb328, 0, none⟩ = some (.int .i64 a0_0) := bk_ BK328; have hcz58_1 : w57.cell? ⟨gb328, 1, none⟩ = some (.string a0_1) := bk_ BK328; have hcz58_2 : w57.cell? ⟨gb328, 2, none⟩ = some (.string a0_2) := bk_ BK328; have hcz58_3 : w57.cell? ⟨gb328, 3, none⟩ = some (.string a0_3) := bk_ BK328; have hcz58_4 : w57.cell? ⟨gb328, 4, none⟩ = some (.int .i64 a0_4) := bk_ BK328; have hfz58_0 := blk_frozen BK328.out 0; have hfz58_1 := blk_frozen BK328.out 1; have hfz58_2 := blk_frozen BK328.out 2; have hfz58_3 := blk_frozen BK328.out 3; have hfz58_4 := blk_frozen BK328.out 4))
         (try simp only [Act.put, List.setIfInBounds_toArray, List.set_cons_zero, List.set_cons_succ])
         go_cut [85] (fun v85 wc => ∃ (kq : Nat) (x85_54 : Bool), v85 = .bool x85_54 ∧ Aside0 (bulletinref48_Show.j1 kq t329 x85_54 a0_0 a0_1 a0_2 a0_3 a0_4 = some r) ∧ Aside0 (kq ≤ kj1) ∧ Aside0 (wc.heap[gb328]? = some (.cells #[.int .i64 a0_0, .string a0_1, .string a0_2, .string a0_3, .int .i64 a0_4] 23 (0, 0))) ∧ Aside0 (Below w.heap.size w wc))
         case first =>
          have H := HC55.out
          clear HC55
          by_cases c59 : a0_0 = 11
          ·rw [if_pos c59] at H
           have c59b0 := beq_iff_eq.mpr c59
           have c59b1 := bne_eq_false_iff_eq.mpr c59
           clear c59
           (first | rw [c59b0] | (simp only [i64_w, i32_w]; rw [c59b0]) | skip)
           have H' := Aside0.mk H
           clear H
           have hcz60_0 : w57.cell? ⟨gb328, 0, none⟩ = some (.int .i64 a0_0) := bk_ BK328
           have hcz60_1 : w57.cell? ⟨gb328, 1, none⟩ = some (.string a0_1) := bk_ BK328
           have hcz60_2 : w57.cell? ⟨gb328, 2, none⟩ = some (.string a0_2) := bk_ BK328
           have hcz60_3 : w57.cell? ⟨gb328, 3, none⟩ = some (.string a0_3) := bk_ BK328
           have hcz60_4 : w57.cell? ⟨gb328, 4, none⟩ = some (.int .i64 a0_4) := bk_ BK328
           have hfz60_0 := blk_frozen BK328.out 0
           have hfz60_1 := blk_frozen BK328.out 1
           have hfz60_2 := blk_frozen BK328.out 2
           have hfz60_3 := blk_frozen BK328.out 3
           have hfz60_4 := blk_frozen BK328.out 4
           go_wp2
           go_meet
           case rel => exact ⟨_, (true), eqs, H', ⟨by have := HJ1.out; first | omega | exact Nat.le_refl _⟩, ⟨bkw BK328⟩, ⟨blw⟩⟩
          ·rw [if_neg c59] at H
           have c59b0 := beq_eq_false_iff_ne.mpr c59
           have c59b1 := bne_iff_ne.mpr c59
           (first | rw [c59b0] | (simp only [i64_w, i32_w]; rw [c59b0]) | skip)
           have H' := Aside0.mk H
           clear H
           have hcz61_0 : w57.cell? ⟨gb328, 0, none⟩ = some (.int .i64 a0_0) := bk_ BK328
           have hcz61_1 : w57.cell? ⟨gb328, 1, none⟩ = some (.string a0_1) := bk_ BK328
           have hcz61_2 : w57.cell? ⟨gb328, 2, none⟩ = some (.string a0_2) := bk_ BK328
           have hcz61_3 : w57.cell? ⟨gb328, 3, none⟩ = some (.string a0_3) := bk_ BK328
           have hcz61_4 : w57.cell? ⟨gb328, 4, none⟩ = some (.int .i64 a0_4) := bk_ BK328
           have hfz61_0 := blk_frozen BK328.out 0
           have hfz61_1 := blk_frozen BK328.out 1
           have hfz61_2 := blk_frozen BK328.out 2
           have hfz61_3 := blk_frozen BK328.out 3
           have hfz61_4 := blk_frozen BK328.out 4
           go_wp2
           go_meet
           case rel => exact ⟨_, ((a0_0 == 12)), eqs, H', ⟨by have := HJ1.out; first | omega | exact Nat.le_refl _⟩, ⟨bkw BK328⟩, ⟨blw⟩⟩
         case rest =>
          clear HC55
          try clear c1
          try clear c2
          try clear p2
          try clear c3
          try clear c4
          try clear c5
          try clear c7
          try clear c9
          try clear c9b0
          try clear c9b1
          try clear c10
          try clear c10b0
          try clear c10b1
          try clear c10b2
          try clear c11
          try clear c11b0
          try clear c11b1
          try clear c11b2
          try clear c12
          try clear c12b0
          try clear c12b1
          try clear c12b2
          try clear c13
          try clear c13b0
          try clear c13b1
          try clear c13b2
          try clear c14
          try clear c14b0
          try clear c14b1
          try clear c14b2
          try clear c16
          try clear c16b0
          try clear c16b1
          try clear c16b2
          try clear c17
          try clear c21
          try clear c21b0
          try clear c21b1
          try clear c22
          try clear c22b0
          try clear c22b1
          try clear c22b2
          try clear c24
          try clear c24b0
          try clear c24b1
          try clear c24b2
          try clear c28
          try clear c28b0
          try clear c28b1
          try clear c29
          try clear c29b0
          try clear c29b1
          try clear c29b2
          try clear c30
          try clear c30b0
          try clear c30b1
          try clear c30b2
          try clear c31
          try clear c31b0
          try clear c31b1
          try clear c31b2
          try clear c32
          try clear c32b0
          try clear c32b1
          try clear c32b2
          try clear c36
          try clear c36b0
          try clear c36b1
          try clear c37
          try clear c37b0
          try clear c37b1
          try clear c37b2
          try clear c38
          try clear c38b0
          try clear c38b1
          try clear c38b2
          try clear c39
          try clear c39b0
          try clear c39b1
          try clear c39b2
          try clear c40
          try clear c40b0
          try clear c40b1
          try clear c40b2
          try clear c44
          try clear c44b0
          try clear c44b1
          try clear c45
          try clear c45b0
          try clear c45b1
          try clear c45b2
          try clear c46
          try clear c46b0
          try clear c46b1
          try clear c46b2
          try clear c47
          try clear c47b0
          try clear c47b1
          try clear c47b2
          try clear c49
          try clear c49b0
          try clear c49b1
          try clear c49b2
          try clear c59
          try clear c59b0
          try clear c59b1
          try clear hcz17_0 hcz17_1 hcz17_2 hcz17_3 hcz17_4
          try clear hcz19_0 hcz19_1 hcz19_2 hcz19_3 hcz19_4
          try clear hcz25_0 hcz25_1 hcz25_2 hcz25_3 hcz25_4
          try clear hcz27_0 hcz27_1 hcz27_2 hcz27_3 hcz27_4
          try clear hcz33_0 hcz33_1 hcz33_2 hcz33_3 hcz33_4
          try clear hcz35_0 hcz35_1 hcz35_2 hcz35_3 hcz35_4
          try clear hcz41_0 hcz41_1 hcz41_2 hcz41_3 hcz41_4
          try clear hcz43_0 hcz43_1 hcz43_2 hcz43_3 hcz43_4
          try clear hcz50_0 hcz50_1 hcz50_2 hcz50_3 hcz50_4
          try clear hcz52_0 hcz52_1 hcz52_2 hcz52_3 hcz52_4
          try clear hcz56_0 hcz56_1 hcz56_2 hcz56_3 hcz56_4
          try clear hcz58_0 hcz58_1 hcz58_2 hcz58_3 hcz58_4
          try clear hcz60_0 hcz60_1 hcz60_2 hcz60_3 hcz60_4
          try clear hcz61_0 hcz61_1 hcz61_2 hcz61_3 hcz61_4
          try clear hfz17_0 hfz17_1 hfz17_2 hfz17_3 hfz17_4
          try clear hfz19_0 hfz19_1 hfz19_2 hfz19_3 hfz19_4
          try clear hfz25_0 hfz25_1 hfz25_2 hfz25_3 hfz25_4
          try clear hfz27_0 hfz27_1 hfz27_2 hfz27_3 hfz27_4
          try clear hfz33_0 hfz33_1 hfz33_2 hfz33_3 hfz33_4
          try clear hfz35_0 hfz35_1 hfz35_2 hfz35_3 hfz35_4
          try clear hfz41_0 hfz41_1 hfz41_2 hfz41_3 hfz41_4
          try clear hfz43_0 hfz43_1 hfz43_2 hfz43_3 hfz43_4
          try clear hfz50_0 hfz50_1 hfz50_2 hfz50_3 hfz50_4
          try clear hfz52_0 hfz52_1 hfz52_2 hfz52_3 hfz52_4
          try clear hfz56_0 hfz56_1 hfz56_2 hfz56_3 hfz56_4
          try clear hfz58_0 hfz58_1 hfz58_2 hfz58_3 hfz58_4
          try clear hfz60_0 hfz60_1 hfz60_2 hfz60_3 hfz60_4
          try clear hfz61_0 hfz61_1 hfz61_2 hfz61_3 hfz61_4
          obtain ⟨kq, x85_54, rfl, HA, HJ54, BK328, HB⟩ := hcut
          cases kq with
          | zero => exact absurd HA.out (by simp [bulletinref48_Show.j1])
          | succ kj54 =>
           have H := HA.out
           clear HA
           simp only [bulletinref48_Show.j1] at H
           by_cases c62 : x85_54 = true
           ·subst c62
            rw [if_pos rfl] at H
            by_cases c63 : a0_4 = 1
            ·rw [if_pos c63] at H
             have c63b0 := beq_iff_eq.mpr c63
             have c63b1 := bne_eq_false_iff_eq.mpr c63
             clear c63
             obtain ⟨c64, H⟩ := iteS H
             have c64b0 := eq_true c64
             have c64b1 := decide_eq_true c64
             try have c64b2 := eq_false (Nat.not_lt.2 c64)
             obtain rfl := Option.some.inj H
             have hcz65_0 : wc.cell? ⟨gb328, 0, none⟩ = some (.int .i64 a0_0) := bk_ BK328
             have hcz65_1 : wc.cell? ⟨gb328, 1, none⟩ = some (.string a0_1) := bk_ BK328
             have hcz65_2 : wc.cell? ⟨gb328, 2, none⟩ = some (.string a0_2) := bk_ BK328
             have hcz65_3 : wc.cell? ⟨gb328, 3, none⟩ = some (.string a0_3) := bk_ BK328
             have hcz65_4 : wc.cell? ⟨gb328, 4, none⟩ = some (.int .i64 a0_4) := bk_ BK328
             have hfz65_0 := blk_frozen BK328.out 0
             have hfz65_1 := blk_frozen BK328.out 1
             have hfz65_2 := blk_frozen BK328.out 2
             have hfz65_3 := blk_frozen BK328.out 3
             have hfz65_4 := blk_frozen BK328.out 4
             go_wp2
             go_ret
             exact ⟨by first | rfl | (simp [errW_none, errW_some] <;> rfl) | (simp [*, errW_none, errW_some] <;> rfl), blw⟩
            ·rw [if_neg c63] at H
             have c63b0 := beq_eq_false_iff_ne.mpr c63
             have c63b1 := bne_iff_ne.mpr c63
             obtain ⟨c66, H⟩ := iteS H
             have c66b0 := eq_true c66
             have c66b1 := decide_eq_true c66
             try have c66b2 := eq_false (Nat.not_lt.2 c66)
             obtain rfl := Option.some.inj H
             have hcz67_0 : wc.cell? ⟨gb328, 0, none⟩ = some (.int .i64 a0_0) := bk_ BK328
             have hcz67_1 : wc.cell? ⟨gb328, 1, none⟩ = some (.string a0_1) := bk_ BK328
             have hcz67_2 : wc.cell? ⟨gb328, 2, none⟩ = some (.string a0_2) := bk_ BK328
             have hcz67_3 : wc.cell? ⟨gb328, 3, none⟩ = some (.string a0_3) := bk_ BK328
             have hcz67_4 : wc.cell? ⟨gb328, 4, none⟩ = some (.int .i64 a0_4) := bk_ BK328
             have hfz67_0 := blk_frozen BK328.out 0
             have hfz67_1 := blk_frozen BK328.out 1
             have hfz67_2 := blk_frozen BK328.out 2
             have hfz67_3 := blk_frozen BK328.out 3
             have hfz67_4 := blk_frozen BK328.out 4
             go_wp2
             go_ret
             exact ⟨by first | rfl | (simp [errW_none, errW_some] <;> rfl) | (simp [*, errW_none, errW_some] <;> rfl), blw⟩
           ·replace c62 := Bool.eq_false_iff.mpr c62
            subst c62
            rw [if_neg nft] at H
            by_cases c68 : a0_0 = 1
            ·rw [if_pos c68] at H
             have c68b0 := beq_iff_eq.mpr c68
             have c68b1 := bne_eq_false_iff_eq.mpr c68
             clear c68
             obtain rfl := Option.some.inj H
             have hcz69_0 : wc.cell? ⟨gb328, 0, none⟩ = some (.int .i64 a0_0) := bk_ BK328
             have hcz69_1 : wc.cell? ⟨gb328, 1, none⟩ = some (.string a0_1) := bk_ BK328
             have hcz69_2 : wc.cell? ⟨gb328, 2, none⟩ = some (.string a0_2) := bk_ BK328
             have hcz69_3 : wc.cell? ⟨gb328, 3, none⟩ = some (.string a0_3) := bk_ BK328
             have hcz69_4 : wc.cell? ⟨gb328, 4, none⟩ = some (.int .i64 a0_4) := bk_ BK328
             have hfz69_0 := blk_frozen BK328.out 0
             have hfz69_1 := blk_frozen BK328.out 1
             have hfz69_2 := blk_frozen BK328.out 2
             have hfz69_3 := blk_frozen BK328.out 3
             have hfz69_4 := blk_frozen BK328.out 4
             go_wp2
             go_ret
             exact ⟨by first | rfl | (simp [errW_none, errW_some] <;> rfl) | (simp [*, errW_none, errW_some] <;> rfl), blw⟩
            ·rw [if_neg c68] at H
             have c68b0 := beq_eq_false_iff_ne.mpr c68
             have c68b1 := bne_iff_ne.mpr c68
             obtain ⟨c70, H⟩ := iteS H
             have c70b0 := eq_true c70
             have c70b1 := decide_eq_true c70
             try have c70b2 := eq_false (Nat.not_lt.2 c70)
             replace H := Option.bind_eq_some_iff.mp H
             obtain ⟨t333, A710, H⟩ := H
             try dsimp only at H
             have A71 := Aside0.mk A710
             clear A710
             obtain ⟨c72, H⟩ := iteS H
             have c72b0 := eq_true c72
             have c72b1 := decide_eq_true c72
             try have c72b2 := eq_false (Nat.not_lt.2 c72)
             obtain rfl := Option.some.inj H
             have hcz73_0 : wc.cell? ⟨gb328, 0, none⟩ = some (.int .i64 a0_0) := bk_ BK328
             have hcz73_1 : wc.cell? ⟨gb328, 1, none⟩ = some (.string a0_1) := bk_ BK328
             have hcz73_2 : wc.cell? ⟨gb328, 2, none⟩ = some (.string a0_2) := bk_ BK328
             have hcz73_3 : wc.cell? ⟨gb328, 3, none⟩ = some (.string a0_3) := bk_ BK328
             have hcz73_4 : wc.cell? ⟨gb328, 4, none⟩ = some (.int .i64 a0_4) := bk_ BK328
             have hfz73_0 := blk_frozen BK328.out 0
             have hfz73_1 := blk_frozen BK328.out 1
             have hfz73_2 := blk_frozen BK328.out 2
             have hfz73_3 := blk_frozen BK328.out 3
             have hfz73_4 := blk_frozen BK328.out 4
             go_wp2_with (first | ((with_reducible refine gc 17 rfl ?_); refine cl_ (some 101) Tryz.func17 (bulletinref07_Number.calls kj54 a0_4 t333 _ A71.out) ?_; rintro w74 hb; replace BK328 := Aside0.mk (blk_below (g := gb328) (o := .cells #[.int .i64 a0_0, .string a0_1, .string a0_2, .string a0_3, .int .i64 a0_4] 23 (0, 0)) (bkw BK328) hb); replace HB := Aside0.mk (below_step blw hb); (try clear hb)))
             go_ret
             exact ⟨by first | rfl | (simp [errW_none, errW_some] <;> rfl) | (simp [*, errW_none, errW_some] <;> rfl), blw⟩

end Go.Proofs.YtcgfaagadejpmaaGreatDoor.Q
