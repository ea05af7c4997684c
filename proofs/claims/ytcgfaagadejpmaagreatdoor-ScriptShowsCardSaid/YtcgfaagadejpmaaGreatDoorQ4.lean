-- Written by a program of this session (wip/myprint) out of the translation, for YtcgfaagadejpmaaGreatDoor.
import Derived.Test.YtcgfaagadejpmaaGreatDoorQ0
import Derived.Test.YtcgfaagadejpmaaGreatDoorQ3
namespace Go.Proofs.YtcgfaagadejpmaaGreatDoor.Q
open Go.RowKit Go.Proofs.YtcgfaagadejpmaaGreatDoorW.PrintWords Go.Proofs.YtcgfaagadejpmaaGreatDoorW.PrintLast Go.Proofs.YtcgfaagadejpmaaGreatDoorW.PrintMore Go.Proofs.YtcgfaagadejpmaaGreatDoorW.PrintSq
attribute [local go_sem] max2_int min2_int max_two min_two max_three min_three max_four min_four   -- for this text's walks alone
set_option linter.unusedVariables false
set_option linter.unusedSimpArgs false

/-! ### script_Show: function 7 -/
mutual
def script_Show.j0 : Nat → Bool → Int → ByteArray → ByteArray → ByteArray → Int → Option (ByteArray)
  | 0, _, _, _, _, _, _ => none
  | k + 1, x12, x102000, x102001, x102002, x102003, x102004 => if x12 = true then (some (⟨#[]⟩ : ByteArray)) else (if 0 ≤ x102000 then (if x102000 < 14 then ((strconv_Itoa.f x102004).bind fun t102 => (if x102000 = 1 then (some (rdOf ByteArray.empty Tab0 x102000)) else (if x102000 = 2 then (if (rdOf ByteArray.empty Tab0 x102000).size + 1 ≤ 9223372036854775807 then ((script_Escape.f x102003).bind fun t103 => (if (rdOf ByteArray.empty Tab0 x102000).size + 1 + t103.size ≤ 9223372036854775807 then (some (((rdOf ByteArray.empty Tab0 x102000) ++ (⟨#[32]⟩ : ByteArray)) ++ t103)) else (none))) else (none)) else (if x102000 = 3 then (if (rdOf ByteArray.empty Tab0 x102000).size + 1 ≤ 9223372036854775807 then (if (rdOf ByteArray.empty Tab0 x102000).size + 1 + x102001.size ≤ 9223372036854775807 then (if (rdOf ByteArray.empty Tab0 x102000).size + 1 + x102001.size + 1 ≤ 9223372036854775807 then (if (rdOf ByteArray.empty Tab0 x102000).size + 1 + x102001.size + 1 + x102002.size ≤ 9223372036854775807 then (if (rdOf ByteArray.empty Tab0 x102000).size + 1 + x102001.size + 1 + x102002.size + 1 ≤ 9223372036854775807 then ((script_Escape.f x102003).bind fun t104 => (if (rdOf ByteArray.empty Tab0 x102000).size + 1 + x102001.size + 1 + x102002.size + 1 + t104.size ≤ 9223372036854775807 then (some (((((((rdOf ByteArray.empty Tab0 x102000) ++ (⟨#[32]⟩ : ByteArray)) ++ x102001) ++ (⟨#[32]⟩ : ByteArray)) ++ x102002) ++ (⟨#[32]⟩ : ByteArray)) ++ t104)) else (none))) else (none)) else (none)) else (none)) else (none)) else (none)) else (if x102000 = 4 then (if (rdOf ByteArray.empty Tab0 x102000).size + 1 ≤ 9223372036854775807 then (if (rdOf ByteArray.empty Tab0 x102000).size + 1 + x102002.size ≤ 9223372036854775807 then (if (rdOf ByteArray.empty Tab0 x102000).size + 1 + x102002.size + 1 ≤ 9223372036854775807 then (if (rdOf ByteArray.empty Tab0 x102000).size + 1 + x102002.size + 1 + x102003.size ≤ 9223372036854775807 then (some (((((rdOf ByteArray.empty Tab0 x102000) ++ (⟨#[32]⟩ : ByteArray)) ++ x102002) ++ (⟨#[32]⟩ : ByteArray)) ++ x102003)) else (none)) else (none)) else (none)) else (none)) else (if x102000 = 8 then (if (rdOf ByteArray.empty Tab0 x102000).size + 1 ≤ 9223372036854775807 then (if (rdOf ByteArray.empty Tab0 x102000).size + 1 + x102002.size ≤ 9223372036854775807 then (if (rdOf ByteArray.empty Tab0 x102000).size + 1 + x102002.size + 1 ≤ 9223372036854775807 then (if (rdOf ByteArray.empty Tab0 x102000).size + 1 + x102002.size + 1 + x102001.size ≤ 9223372036854775807 then (some (((((rdOf ByteArray.empty Tab0 x102000) ++ (⟨#[32]⟩ : ByteArray)) ++ x102002) ++ (⟨#[32]⟩ : ByteArray)) ++ x102001)) else (none)) else (none)) else (none)) else (none)) else (if x102000 = 13 then (if (rdOf ByteArray.empty Tab0 x102000).size + 1 ≤ 9223372036854775807 then (if (rdOf ByteArray.empty Tab0 x102000).size + 1 + x102003.size ≤ 9223372036854775807 then (if (rdOf ByteArray.empty Tab0 x102000).size + 1 + x102003.size + 1 ≤ 9223372036854775807 then (if (rdOf ByteArray.empty Tab0 x102000).size + 1 + x102003.size + 1 + t102.size ≤ 9223372036854775807 then (some (((((rdOf ByteArray.empty Tab0 x102000) ++ (⟨#[32]⟩ : ByteArray)) ++ x102003) ++ (⟨#[32]⟩ : ByteArray)) ++ t102)) else (none)) else (none)) else (none)) else (none)) else (if x102000 = 11 then (script_Show.j1 k (rdOf ByteArray.empty Tab0 x102000) t102 (x102000 == 11) x102000 x102001 x102002 x102003 x102004) else (script_Show.j1 k (rdOf ByteArray.empty Tab0 x102000) t102 (x102000 == 12) x102000 x102001 x102002 x102003 x102004))))))))) else (none)) else (none))
def script_Show.j1 : Nat → ByteArray → ByteArray → Bool → Int → ByteArray → ByteArray → ByteArray → Int → Option (ByteArray)
  | 0, _, _, _, _, _, _, _, _ => none
  | k + 1, x3, x4, x81, x102000, x102001, x102002, x102003, x102004 => if x81 = true then (if x102004 = 1 then (if x3.size + 4 ≤ 9223372036854775807 then (some (x3 ++ (⟨#[32, 121, 101, 115]⟩ : ByteArray))) else (none)) else (if x3.size + 3 ≤ 9223372036854775807 then (some (x3 ++ (⟨#[32, 110, 111]⟩ : ByteArray))) else (none))) else (if x3.size + 1 ≤ 9223372036854775807 then (if x3.size + 1 + x4.size ≤ 9223372036854775807 then (some ((x3 ++ (⟨#[32]⟩ : ByteArray)) ++ x4)) else (none)) else (none))
end
def script_Show.f (k : Nat) (a0_0 : Int) (a0_1 : ByteArray) (a0_2 : ByteArray) (a0_3 : ByteArray) (a0_4 : Int) : Option (ByteArray) := if a0_0 < 1 then (script_Show.j0 k true a0_0 a0_1 a0_2 a0_3 a0_4) else (script_Show.j0 k (decide (a0_0 > 13)) a0_0 a0_1 a0_2 a0_3 a0_4)
theorem script_Show.mono_l : ∀ k, (∀ y0 y1 y2 y3 y4 y5, LeO (script_Show.j0 k y0 y1 y2 y3 y4 y5) (script_Show.j0 (k + 1) y0 y1 y2 y3 y4 y5)) ∧ (∀ y0 y1 y2 y3 y4 y5 y6 y7, LeO (script_Show.j1 k y0 y1 y2 y3 y4 y5 y6 y7) (script_Show.j1 (k + 1) y0 y1 y2 y3 y4 y5 y6 y7))
  | 0 => ⟨fun _ _ _ _ _ _ r h => by simp [script_Show.j0] at h, fun _ _ _ _ _ _ _ _ r h => by simp [script_Show.j1] at h⟩
  | k + 1 => by
    obtain ⟨ih0, ih1⟩ := script_Show.mono_l k
    refine ⟨?_, ?_⟩
    · intro y0 y1 y2 y3 y4 y5
      unfold script_Show.j0
      repeat' first | (with_reducible first | exact ih0 _ _ _ _ _ _ | exact ih1 _ _ _ _ _ _ _ _ | exact LeO.refl _ | exact LeO.none _ | refine LeO.ite ?_ ?_ | refine LeO.bind ?_ (fun _ => ?_)) | exact ih0 _ _ _ _ _ _ | exact ih1 _ _ _ _ _ _ _ _ | exact LeO.none _ | refine LeO.ite ?_ ?_ | refine LeO.bind ?_ (fun _ => ?_)
    · intro y0 y1 y2 y3 y4 y5 y6 y7
      unfold script_Show.j1
      repeat' first | (with_reducible first | exact ih0 _ _ _ _ _ _ | exact ih1 _ _ _ _ _ _ _ _ | exact LeO.refl _ | exact LeO.none _ | refine LeO.ite ?_ ?_ | refine LeO.bind ?_ (fun _ => ?_)) | exact ih0 _ _ _ _ _ _ | exact ih1 _ _ _ _ _ _ _ _ | exact LeO.none _ | refine LeO.ite ?_ ?_ | refine LeO.bind ?_ (fun _ => ?_)
theorem script_Show.mono : ∀ a0 a1 a2 a3 a4 k, LeO (script_Show.f k a0 a1 a2 a3 a4) (script_Show.f (k + 1) a0 a1 a2 a3 a4) := by
  intro a0 a1 a2 a3 a4 k
  obtain ⟨ih0, ih1⟩ := script_Show.mono_l k
  unfold script_Show.f
  repeat' first | (with_reducible first | exact ih0 _ _ _ _ _ _ | exact ih1 _ _ _ _ _ _ _ _ | exact LeO.refl _ | exact LeO.none _ | refine LeO.ite ?_ ?_ | refine LeO.bind ?_ (fun _ => ?_)) | exact ih0 _ _ _ _ _ _ | exact ih1 _ _ _ _ _ _ _ _ | exact LeO.none _ | refine LeO.ite ?_ ?_ | refine LeO.bind ?_ (fun _ => ?_)
def script_Show.T3 : Bool × List (List Nat × List Nat) := (true, [([], []), ([0], [0]), ([1], [1]), ([2], [2]), ([], []), ([4], [4]), ([5], [5]), ([3, 6, 0, 1, 2, 3], [3]), ([6, 7, 0, 1, 2, 3, 4, 5, 6, 7], [6])])
def script_Show.B3 : List Nat := [0, 1, 3, 7, 0, 16, 48, 127, 255]
theorem script_Show.tab3 : rtab .any (opsOf Tryz.f7 3) = script_Show.T3 := by kernel_rfl
theorem script_Show.bits3 : waitsOk script_Show.T3.2 script_Show.B3 = true := by kernel_rfl
def script_Show.T10 : Bool × List (List Nat × List Nat) := (true, [([], []), ([0], [0]), ([], []), ([2], [2]), ([1, 3], [1, 3]), ([4], [4]), ([], []), ([6], [6]), ([5, 7], [5, 7]), ([8], [8]), ([], []), ([10], [10]), ([11], [11]), ([9, 12], [9, 12]), ([13, 12, 0, 1, 2, 3, 4, 5, 6, 7, 8, 9, 10, 11, 12, 13], [13])])
def script_Show.B10 : List Nat := [0, 1, 0, 4, 15, 31, 0, 64, 255, 511, 0, 1024, 3072, 8191, 16383]
theorem script_Show.tab10 : rtab .any (opsOf Tryz.f7 10) = script_Show.T10 := by kernel_rfl
theorem script_Show.bits10 : waitsOk script_Show.T10.2 script_Show.B10 = true := by kernel_rfl
set_option maxHeartbeats 8000000 in
set_option maxRecDepth 100000 in
theorem script_Show.calls (k : Nat) (a0_0 : Int) (a0_1 : ByteArray) (a0_2 : ByteArray) (a0_3 : ByteArray) (a0_4 : Int) (r : ByteArray) (w : World) (hG : Amb w) (h : script_Show.f k a0_0 a0_1 a0_2 a0_3 a0_4 = some r) :
    Calls Tryz.prog 7 #[.agg #[.int .i64 a0_0, .string a0_1, .string a0_2, .string a0_3, .int .i64 a0_4]] w fun e w' => e = .returned (.string r) ∧ Below w.heap.size w w' := by
 have hu28 := Tryz.underlying28
 have HB := Aside0.mk (Below.refl w.heap.size w)
 unfold script_Show.f at h
 have H := h
 clear h
 have HG := Aside0.mk hG
 clear hG
 have HC2 := Aside0.mk H
 clear H
 go_enter Tryz.func7, Tryz.ntmps7
 go_upto_region 1 with (first | ((with_reducible refine gate_dst (N := 1) rfl ?_); refine box_event ?hg (N := 1) ?hd (cs := #[.int .i64 a0_0, .string a0_1, .string a0_2, .string a0_3, .int .i64 a0_4]) (t := 28) ?hr ?_; (case hd => rfl); (case hg => rfl); (case hr => first | (go_simp; done) | (go_simp; rfl)); intro gb101 hg w3 hbox hb; have BK101 := Aside0.mk (hbox); have GW101 : Aside0 (w.heap.size ≤ gb101) := gw_ hg; have GE101 : Aside0 (w.heap.size ≤ gb101) := gw_ hg; replace HB := Aside0.mk (below_step blw hb); clear hb hbox hg))
 (try simp only [Act.put, List.setIfInBounds_toArray, List.set_cons_zero, List.set_cons_succ])
 go_cut [12] (fun v12 wc => ∃ (kq : Nat) (x12_1 : Bool), v12 = .bool x12_1 ∧ Aside0 (script_Show.j0 kq x12_1 a0_0 a0_1 a0_2 a0_3 a0_4 = some r) ∧ Aside0 (kq ≤ k) ∧ Aside0 (wc.heap[gb101]? = some (.cells #[.int .i64 a0_0, .string a0_1, .string a0_2, .string a0_3, .int .i64 a0_4] 28 (0, 0))) ∧ Aside0 (Below w.heap.size w wc))
 case first =>
  have H := HC2.out
  clear HC2
  by_cases c4 : a0_0 < 1
  ·rw [if_pos c4] at H
   have c4b0 := decide_eq_true c4
   clear c4
   (first | rw [c4b0] | (simp only [i64_w, i32_w]; rw [c4b0]) | skip)
   have H' := Aside0.mk H
   clear H
   have hcz5_0 : w3.cell? ⟨gb101, 0, none⟩ = some (.int .i64 a0_0) := bk_ BK101
   have hcz5_1 : w3.cell? ⟨gb101, 1, none⟩ = some (.string a0_1) := bk_ BK101
   have hcz5_2 : w3.cell? ⟨gb101, 2, none⟩ = some (.string a0_2) := bk_ BK101
   have hcz5_3 : w3.cell? ⟨gb101, 3, none⟩ = some (.string a0_3) := bk_ BK101
   have hcz5_4 : w3.cell? ⟨gb101, 4, none⟩ = some (.int .i64 a0_4) := bk_ BK101
   have hfz5_0 := blk_frozen BK101.out 0
   have hfz5_1 := blk_frozen BK101.out 1
   have hfz5_2 := blk_frozen BK101.out 2
   have hfz5_3 := blk_frozen BK101.out 3
   have hfz5_4 := blk_frozen BK101.out 4
   go_wp2
   go_meet
   case rel => exact ⟨_, (true), eqs, H', omk, ⟨bkw BK101⟩, ⟨blw⟩⟩
  ·rw [if_neg c4] at H
   have c4b0 := decide_eq_false c4
   clear c4
   (first | rw [c4b0] | (simp only [i64_w, i32_w]; rw [c4b0]) | skip)
   have H' := Aside0.mk H
   clear H
   have hcz6_0 : w3.cell? ⟨gb101, 0, none⟩ = some (.int .i64 a0_0) := bk_ BK101
   have hcz6_1 : w3.cell? ⟨gb101, 1, none⟩ = some (.string a0_1) := bk_ BK101
   have hcz6_2 : w3.cell? ⟨gb101, 2, none⟩ = some (.string a0_2) := bk_ BK101
   have hcz6_3 : w3.cell? ⟨gb101, 3, none⟩ = some (.string a0_3) := bk_ BK101
   have hcz6_4 : w3.cell? ⟨gb101, 4, none⟩ = some (.int .i64 a0_4) := bk_ BK101
   have hfz6_0 := blk_frozen BK101.out 0
   have hfz6_1 := blk_frozen BK101.out 1
   have hfz6_2 := blk_frozen BK101.out 2
   have hfz6_3 := blk_frozen BK101.out 3
   have hfz6_4 := blk_frozen BK101.out 4
   go_wp2
   go_meet
   case rel => exact ⟨_, (decide (a0_0 > 13)), eqs, H', omk, ⟨bkw BK101⟩, ⟨blw⟩⟩
 case rest =>
  clear HC2
  try clear p2
  try clear c4
  try clear c4b0
  try clear hcz5_0 hcz5_1 hcz5_2 hcz5_3 hcz5_4
  try clear hcz6_0 hcz6_1 hcz6_2 hcz6_3 hcz6_4
  try clear hfz5_0 hfz5_1 hfz5_2 hfz5_3 hfz5_4
  try clear hfz6_0 hfz6_1 hfz6_2 hfz6_3 hfz6_4
  obtain ⟨kq, x12_1, rfl, HA, HJ1, BK101, HB⟩ := hcut
  cases kq with
  | zero => exact absurd HA.out (by simp [script_Show.j0])
  | succ kj1 =>
   have H := HA.out
   clear HA
   simp only [script_Show.j0] at H
   by_cases c7 : x12_1 = true
   ·subst c7
    rw [if_pos rfl] at H
    obtain rfl := Option.some.inj H
    go_wp2
    go_ret
    exact ⟨by first | rfl | (simp [errW_none, errW_some] <;> rfl) | (simp [*, errW_none, errW_some] <;> rfl), blw⟩
   ·replace c7 := Bool.eq_false_iff.mpr c7
    subst c7
    rw [if_neg nft] at H
    obtain ⟨c8, H⟩ := iteS H
    have c8b0 := decide_eq_true c8
    clear c8
    obtain ⟨c9, H⟩ := iteS H
    have c9b0 := decide_eq_true c9
    clear c9
    replace H := Option.bind_eq_some_iff.mp H
    obtain ⟨t102, A110, H⟩ := H
    try dsimp only at H
    have A11 := Aside0.mk A110
    clear A110
    by_cases c12 : a0_0 = 1
    ·rw [if_pos c12] at H
     have c12b0 := beq_iff_eq.mpr c12
     have c12b1 := bne_eq_false_iff_eq.mpr c12
     clear c12
     obtain rfl := Option.some.inj H
     try go_wp2
     replace BK101 := Aside0.mk (blk_drew BK101.out)
     replace HB := Aside0.mk (below_drew1 HB.out)
     have p10 : 0 ≤ (a0_0 : Int) := od_
     have q10 : (a0_0 : Int) < 14 := od_
     have hw10_0 : w.cell? ⟨0, (a0_0).toNat, none⟩ = some (.string (rdOf ByteArray.empty Tab0 a0_0)) := HG.out.t0 a0_0 p10 q10
     have hx10_0 := (HB.out.cell (World.block_lt_of_cell? w _ hw10_0)).trans hw10_0
     replace p10 := eq_true p10
     replace q10 := eq_true q10
     refine start_ (n := 9) (S := fun w' => w'.cell? ⟨gb101, 0, none⟩ = some (.int .i64 a0_0) ∧ w'.cell? ⟨gb101, 1, none⟩ = some (.string a0_1) ∧ w'.cell? ⟨gb101, 2, none⟩ = some (.string a0_2) ∧ w'.cell? ⟨gb101, 3, none⟩ = some (.string a0_3) ∧ w'.cell? ⟨gb101, 4, none⟩ = some (.int .i64 a0_4) ∧ w'.cell? ⟨0, (a0_0).toNat, none⟩ = some (.string (rdOf ByteArray.empty Tab0 a0_0))) (ds := []) (ba 9 0) (by kernel_rfl) rfl rfl ⟨bk_ BK101, bk_ BK101, bk_ BK101, bk_ BK101, bk_ BK101, hc_ hw10_0⟩ (fun hHeld => ?_); refine with_tabW script_Show.tab3 script_Show.bits3 (fun HT_ HW_ => ?_)
     generalize wc.drew = w13 at BK101 HB hx10_0 hHeld ⊢
     refine pu_ 0 13 1 ?_
     refine pu_ 4 17 17 ?_
     refine tk_ 1 14 19 hHeld ?_
     refine pu_ 2 15 23 ?_
     refine tk_ 3 16 31 hHeld ?_
     refine tk_ 5 18 63 hHeld ?_
     refine one1 6 (some 19) 127 (fun K hK => ?_)
     refine go1 Tryz.func15 #[.int .i64 a0_4] ?_
     with_reducible refine (strconv_Itoa.calls a0_4 t102 _ ?side1 A11.out).mono ?_
     (case side1 => exact Amb.at HG.out blw)
     rintro e w14 ⟨rfl, hb⟩
     refine ⟨_, rfl, ?_⟩
     replace BK101 := Aside0.mk (blk_below (g := gb101) (o := .cells #[.int .i64 a0_0, .string a0_1, .string a0_2, .string a0_3, .int .i64 a0_4] 28 (0, 0)) (bkw BK101) hb)
     replace HB := Aside0.mk (below_step blw hb)
     (try clear hb)
     refine hK.out _ _ ⟨bk_ BK101, bk_ BK101, bk_ BK101, bk_ BK101, bk_ BK101, hc_ hw10_0⟩ (fun hHeld => ?_)
     clear hK K
     refine nm_ (some 19) ?_
     refine pu_ 7 3 255 ?_
     refine pu_ 8 4 511 ?_
     refine done_ (done_of HT_.out (by kernel_rfl)) ?_
     have hcz15_0 : w14.cell? ⟨gb101, 0, none⟩ = some (.int .i64 a0_0) := bk_ BK101
     have hcz15_1 : w14.cell? ⟨gb101, 1, none⟩ = some (.string a0_1) := bk_ BK101
     have hcz15_2 : w14.cell? ⟨gb101, 2, none⟩ = some (.string a0_2) := bk_ BK101
     have hcz15_3 : w14.cell? ⟨gb101, 3, none⟩ = some (.string a0_3) := bk_ BK101
     have hcz15_4 : w14.cell? ⟨gb101, 4, none⟩ = some (.int .i64 a0_4) := bk_ BK101
     have hfz15_0 := blk_frozen BK101.out 0
     have hfz15_1 := blk_frozen BK101.out 1
     have hfz15_2 := blk_frozen BK101.out 2
     have hfz15_3 := blk_frozen BK101.out 3
     have hfz15_4 := blk_frozen BK101.out 4
     try go_wp2
     go_ret
     exact ⟨by first | rfl | (simp [errW_none, errW_some] <;> rfl) | (simp [*, errW_none, errW_some] <;> rfl), blw⟩
    ·rw [if_neg c12] at H
     have c12b0 := beq_eq_false_iff_ne.mpr c12
     have c12b1 := bne_iff_ne.mpr c12
     by_cases c16 : a0_0 = 2
     ·rw [if_pos c16] at H
      have c16b0 := beq_iff_eq.mpr c16
      have c16b1 := bne_eq_false_iff_eq.mpr c16
      clear c16
      obtain ⟨c17, H⟩ := iteS H
      have c17b0 := eq_true c17
      have c17b1 := decide_eq_true c17
      try have c17b2 := eq_false (Nat.not_lt.2 c17)
      replace H := Option.bind_eq_some_iff.mp H
      obtain ⟨t103, A180, H⟩ := H
      try dsimp only at H
      have A18 := Aside0.mk A180
      clear A180
      obtain ⟨c19, H⟩ := iteS H
      have c19b0 := eq_true c19
      have c19b1 := decide_eq_true c19
      try have c19b2 := eq_false (Nat.not_lt.2 c19)
      obtain rfl := Option.some.inj H
      try go_wp2
      replace BK101 := Aside0.mk (blk_drew BK101.out)
      replace HB := Aside0.mk (below_drew1 HB.out)
      have p10 : 0 ≤ (a0_0 : Int) := od_
      have q10 : (a0_0 : Int) < 14 := od_
      have hw10_0 : w.cell? ⟨0, (a0_0).toNat, none⟩ = some (.string (rdOf ByteArray.empty Tab0 a0_0)) := HG.out.t0 a0_0 p10 q10
      have hx10_0 := (HB.out.cell (World.block_lt_of_cell? w _ hw10_0)).trans hw10_0
      replace p10 := eq_true p10
      replace q10 := eq_true q10
      refine start_ (n := 9) (S := fun w' => w'.cell? ⟨gb101, 0, none⟩ = some (.int .i64 a0_0) ∧ w'.cell? ⟨gb101, 1, none⟩ = some (.string a0_1) ∧ w'.cell? ⟨gb101, 2, none⟩ = some (.string a0_2) ∧ w'.cell? ⟨gb101, 3, none⟩ = some (.string a0_3) ∧ w'.cell? ⟨gb101, 4, none⟩ = some (.int .i64 a0_4) ∧ w'.cell? ⟨0, (a0_0).toNat, none⟩ = some (.string (rdOf ByteArray.empty Tab0 a0_0))) (ds := []) (ba 9 0) (by kernel_rfl) rfl rfl ⟨bk_ BK101, bk_ BK101, bk_ BK101, bk_ BK101, bk_ BK101, hc_ hw10_0⟩ (fun hHeld => ?_); refine with_tabW script_Show.tab3 script_Show.bits3 (fun HT_ HW_ => ?_)
      generalize wc.drew = w20 at BK101 HB hx10_0 hHeld ⊢
      refine pu_ 0 13 1 ?_
      refine pu_ 4 17 17 ?_
      refine tk_ 1 14 19 hHeld ?_
      refine pu_ 2 15 23 ?_
      refine tk_ 3 16 31 hHeld ?_
      refine tk_ 5 18 63 hHeld ?_
      refine one1 6 (some 19) 127 (fun K hK => ?_)
      refine go1 Tryz.func15 #[.int .i64 a0_4] ?_
      with_reducible refine (strconv_Itoa.calls a0_4 t102 _ ?side1 A11.out).mono ?_
      (case side1 => exact Amb.at HG.out blw)
      rintro e w21 ⟨rfl, hb⟩
      refine ⟨_, rfl, ?_⟩
      replace BK101 := Aside0.mk (blk_below (g := gb101) (o := .cells #[.int .i64 a0_0, .string a0_1, .string a0_2, .string a0_3, .int .i64 a0_4] 28 (0, 0)) (bkw BK101) hb)
      replace HB := Aside0.mk (below_step blw hb)
      (try clear hb)
      refine hK.out _ _ ⟨bk_ BK101, bk_ BK101, bk_ BK101, bk_ BK101, bk_ BK101, hc_ hw10_0⟩ (fun hHeld => ?_)
      clear hK K
      refine nm_ (some 19) ?_
      refine pu_ 7 3 255 ?_
      refine pu_ 8 4 511 ?_
      refine done_ (done_of HT_.out (by kernel_rfl)) ?_
      have hcz22_0 : w21.cell? ⟨gb101, 0, none⟩ = some (.int .i64 a0_0) := bk_ BK101
      have hcz22_1 : w21.cell? ⟨gb101, 1, none⟩ = some (.string a0_1) := bk_ BK101
      have hcz22_2 : w21.cell? ⟨gb101, 2, none⟩ = some (.string a0_2) := bk_ BK101
      have hcz22_3 : w21.cell? ⟨gb101, 3, none⟩ = some (.string a0_3) := bk_ BK101
      have hcz22_4 : w21.cell? ⟨gb101, 4, none⟩ = some (.int .i64 a0_4) := bk_ BK101
      have hfz22_0 := blk_frozen BK101.out 0
      have hfz22_1 := blk_frozen BK101.out 1
      have hfz22_2 := blk_frozen BK101.out 2
      have hfz22_3 := blk_frozen BK101.out 3
      have hfz22_4 := blk_frozen BK101.out 4
      try go_wp2_with (first | ((with_reducible refine gc 10 rfl ?_); refine cl_ (some 31) Tryz.func10 (script_Escape.calls a0_3 t103 _ A18.out) ?_; rintro w23 hb; replace BK101 := Aside0.mk (blk_below (g := gb101) (o := .cells #[.int .i64 a0_0, .string a0_1, .string a0_2, .string a0_3, .int .i64 a0_4] 28 (0, 0)) (bkw BK101) hb); replace HB := Aside0.mk (below_step blw hb); (try clear hb)))
      go_ret
      exact ⟨by first | rfl | (simp [errW_none, errW_some] <;> rfl) | (simp [*, errW_none, errW_some] <;> rfl), blw⟩
     ·rw [if_neg c16] at H
      have c16b0 := beq_eq_false_iff_ne.mpr c16
      have c16b1 := bne_iff_ne.mpr c16
      by_cases c24 : a0_0 = 3
      ·rw [if_pos c24] at H
       have c24b0 := beq_iff_eq.mpr c24
       have c24b1 := bne_eq_false_iff_eq.mpr c24
       clear c24
       obtain ⟨c25, H⟩ := iteS H
       have c25b0 := eq_true c25
       have c25b1 := decide_eq_true c25
       try have c25b2 := eq_false (Nat.not_lt.2 c25)
       obtain ⟨c26, H⟩ := iteS H
       have c26b0 := eq_true c26
       have c26b1 := decide_eq_true c26
       try have c26b2 := eq_false (Nat.not_lt.2 c26)
       obtain ⟨c27, H⟩ := iteS H
       have c27b0 := eq_true c27
       have c27b1 := decide_eq_true c27
       try have c27b2 := eq_false (Nat.not_lt.2 c27)
       obtain ⟨c28, H⟩ := iteS H
       have c28b0 := eq_true c28
       have c28b1 := decide_eq_true c28
       try have c28b2 := eq_false (Nat.not_lt.2 c28)
       obtain ⟨c29, H⟩ := iteS H
       have c29b0 := eq_true c29
       have c29b1 := decide_eq_true c29
       try have c29b2 := eq_false (Nat.not_lt.2 c29)
       replace H := Option.bind_eq_some_iff.mp H
       obtain ⟨t104, A300, H⟩ := H
       try dsimp only at H
       have A30 := Aside0.mk A300
       clear A300
       obtain ⟨c31, H⟩ := iteS H
       have c31b0 := eq_true c31
       have c31b1 := decide_eq_true c31
       try have c31b2 := eq_false (Nat.not_lt.2 c31)
       obtain rfl := Option.some.inj H
       try go_wp2
       replace BK101 := Aside0.mk (blk_drew BK101.out)
       replace HB := Aside0.mk (below_drew1 HB.out)
       have p10 : 0 ≤ (a0_0 : Int) := od_
       have q10 : (a0_0 : Int) < 14 := od_
       have hw10_0 : w.cell? ⟨0, (a0_0).toNat, none⟩ = some (.string (rdOf ByteArray.empty Tab0 a0_0)) := HG.out.t0 a0_0 p10 q10
       have hx10_0 := (HB.out.cell (World.block_lt_of_cell? w _ hw10_0)).trans hw10_0
       replace p10 := eq_true p10
       replace q10 := eq_true q10
       refine start_ (n := 9) (S := fun w' => w'.cell? ⟨gb101, 0, none⟩ = some (.int .i64 a0_0) ∧ w'.cell? ⟨gb101, 1, none⟩ = some (.string a0_1) ∧ w'.cell? ⟨gb101, 2, none⟩ = some (.string a0_2) ∧ w'.cell? ⟨gb101, 3, none⟩ = some (.string a0_3) ∧ w'.cell? ⟨gb101, 4, none⟩ = some (.int .i64 a0_4) ∧ w'.cell? ⟨0, (a0_0).toNat, none⟩ = some (.string (rdOf ByteArray.empty Tab0 a0_0))) (ds := []) (ba 9 0) (by kernel_rfl) rfl rfl ⟨bk_ BK101, bk_ BK101, bk_ BK101, bk_ BK101, bk_ BK101, hc_ hw10_0⟩ (fun hHeld => ?_); refine with_tabW script_Show.tab3 script_Show.bits3 (fun HT_ HW_ => ?_)
       generalize wc.drew = w32 at BK101 HB hx10_0 hHeld ⊢
       refine pu_ 0 13 1 ?_
       refine pu_ 4 17 17 ?_
       refine tk_ 1 14 19 hHeld ?_
       refine pu_ 2 15 23 ?_
       refine tk_ 3 16 31 hHeld ?_
       refine tk_ 5 18 63 hHeld ?_
       refine one1 6 (some 19) 127 (fun K hK => ?_)
       refine go1 Tryz.func15 #[.int .i64 a0_4] ?_
       with_reducible refine (strconv_Itoa.calls a0_4 t102 _ ?side1 A11.out).mono ?_
       (case side1 => exact Amb.at HG.out blw)
       rintro e w33 ⟨rfl, hb⟩
       refine ⟨_, rfl, ?_⟩
       replace BK101 := Aside0.mk (blk_below (g := gb101) (o := .cells #[.int .i64 a0_0, .string a0_1, .string a0_2, .string a0_3, .int .i64 a0_4] 28 (0, 0)) (bkw BK101) hb)
       replace HB := Aside0.mk (below_step blw hb)
       (try clear hb)
       refine hK.out _ _ ⟨bk_ BK101, bk_ BK101, bk_ BK101, bk_ BK101, bk_ BK101, hc_ hw10_0⟩ (fun hHeld => ?_)
       clear hK K
       refine nm_ (some 19) ?_
       refine pu_ 7 3 255 ?_
       refine pu_ 8 4 511 ?_
       refine done_ (done_of HT_.out (by kernel_rfl)) ?_
       have hcz34_0 : w33.cell? ⟨gb101, 0, none⟩ = some (.int .i64 a0_0) := bk_ BK101
       have hcz34_1 : w33.cell? ⟨gb101, 1, none⟩ = some (.string a0_1) := bk_ BK101
       have hcz34_2 : w33.cell? ⟨gb101, 2, none⟩ = some (.string a0_2) := bk_ BK101
       have hcz34_3 : w33.cell? ⟨gb101, 3, none⟩ = some (.string a0_3) := bk_ BK101
       have hcz34_4 : w33.cell? ⟨gb101, 4, none⟩ = some (.int .i64 a0_4) := bk_ BK101
       have hfz34_0 := blk_frozen BK101.out 0
       have hfz34_1 := blk_frozen BK101.out 1
       have hfz34_2 := blk_frozen BK101.out 2
       have hfz34_3 := blk_frozen BK101.out 3
       have hfz34_4 := blk_frozen BK101.out 4
       try go_wp2
       replace BK101 := Aside0.mk (blk_drew BK101.out)
       replace HB := Aside0.mk (below_drew1 HB.out)
       refine start_ (n := 15) (S := fun w' => w'.cell? ⟨gb101, 0, none⟩ = some (.int .i64 a0_0) ∧ w'.cell? ⟨gb101, 1, none⟩ = some (.string a0_1) ∧ w'.cell? ⟨gb101, 2, none⟩ = some (.string a0_2) ∧ w'.cell? ⟨gb101, 3, none⟩ = some (.string a0_3) ∧ w'.cell? ⟨gb101, 4, none⟩ = some (.int .i64 a0_4)) (ds := []) (ba 15 0) (by kernel_rfl) rfl rfl ⟨bk_ BK101, bk_ BK101, bk_ BK101, bk_ BK101, bk_ BK101⟩ (fun hHeld => ?_); refine with_tabW script_Show.tab10 script_Show.bits10 (fun HT_ HW_ => ?_)
       generalize w33.drew = w35 at BK101 HB hHeld ⊢
       refine pu_ 0 35 1 ?_
       refine pu_ 1 36 3 ?_
       refine pu_ 2 37 7 ?_
       refine pu_ 6 41 71 ?_
       refine pu_ 10 45 1095 ?_
       refine tk_ 3 38 1103 hHeld ?_
       refine pu_ 4 39 1119 ?_
       refine pu_ 5 40 1151 ?_
       refine tk_ 7 42 1279 hHeld ?_
       refine pu_ 8 43 1535 ?_
       refine pu_ 9 44 2047 ?_
       refine tk_ 11 46 4095 hHeld ?_
       refine one1 12 (some 47) 8191 (fun K hK => ?_)
       refine go1 Tryz.func10 #[.string a0_3] ?_
       with_reducible refine (script_Escape.calls a0_3 t104 _ A30.out).mono ?_
       rintro e w36 ⟨rfl, hb⟩
       refine ⟨_, rfl, ?_⟩
       replace BK101 := Aside0.mk (blk_below (g := gb101) (o := .cells #[.int .i64 a0_0, .string a0_1, .string a0_2, .string a0_3, .int .i64 a0_4] 28 (0, 0)) (bkw BK101) hb)
       replace HB := Aside0.mk (below_step blw hb)
       (try clear hb)
       refine hK.out _ _ ⟨bk_ BK101, bk_ BK101, bk_ BK101, bk_ BK101, bk_ BK101⟩ (fun hHeld => ?_)
       clear hK K
       refine nm_ (some 47) ?_
       refine pu_ 13 48 16383 ?_
       refine pu_ 14 2 32767 ?_
       refine done_ (done_of HT_.out (by kernel_rfl)) ?_
       try go_wp2
       go_ret
       exact ⟨by first | rfl | (simp [errW_none, errW_some] <;> rfl) | (simp [*, errW_none, errW_some] <;> rfl), blw⟩
      ·rw [if_neg c24] at H
       have c24b0 := beq_eq_false_iff_ne.mpr c24
       have c24b1 := bne_iff_ne.mpr c24
       by_cases c37 : a0_0 = 4
       ·rw [if_pos c37] at H
        have c37b0 := beq_iff_eq.mpr c37
        have c37b1 := bne_eq_false_iff_eq.mpr c37
        clear c37
        obtain ⟨c38, H⟩ := iteS H
        have c38b0 := eq_true c38
        have c38b1 := decide_eq_true c38
        try have c38b2 := eq_false (Nat.not_lt.2 c38)
        obtain ⟨c39, H⟩ := iteS H
        have c39b0 := eq_true c39
        have c39b1 := decide_eq_true c39
        try have c39b2 := eq_false (Nat.not_lt.2 c39)
        obtain ⟨c40, H⟩ := iteS H
        have c40b0 := eq_true c40
        have c40b1 := decide_eq_true c40
        try have c40b2 := eq_false (Nat.not_lt.2 c40)
        obtain ⟨c41, H⟩ := iteS H
        have c41b0 := eq_true c41
        have c41b1 := decide_eq_true c41
        try have c41b2 := eq_false (Nat.not_lt.2 c41)
        obtain rfl := Option.some.inj H
        try go_wp2
        replace BK101 := Aside0.mk (blk_drew BK101.out)
        replace HB := Aside0.mk (below_drew1 HB.out)
        have p10 : 0 ≤ (a0_0 : Int) := od_
        have q10 : (a0_0 : Int) < 14 := od_
        have hw10_0 : w.cell? ⟨0, (a0_0).toNat, none⟩ = some (.string (rdOf ByteArray.empty Tab0 a0_0)) := HG.out.t0 a0_0 p10 q10
        have hx10_0 := (HB.out.cell (World.block_lt_of_cell? w _ hw10_0)).trans hw10_0
        replace p10 := eq_true p10
        replace q10 := eq_true q10
        refine start_ (n := 9) (S := fun w' => w'.cell? ⟨gb101, 0, none⟩ = some (.int .i64 a0_0) ∧ w'.cell? ⟨gb101, 1, none⟩ = some (.string a0_1) ∧ w'.cell? ⟨gb101, 2, none⟩ = some (.string a0_2) ∧ w'.cell? ⟨gb101, 3, none⟩ = some (.string a0_3) ∧ w'.cell? ⟨gb101, 4, none⟩ = some (.int .i64 a0_4) ∧ w'.cell? ⟨0, (a0_0).toNat, none⟩ = some (.string (rdOf ByteArray.empty Tab0 a0_0))) (ds := []) (ba 9 0) (by kernel_rfl) rfl rfl ⟨bk_ BK101, bk_ BK101, bk_ BK101, bk_ BK101, bk_ BK101, hc_ hw10_0⟩ (fun hHeld => ?_); refine with_tabW script_Show.tab3 script_Show.bits3 (fun HT_ HW_ => ?_)
        generalize wc.drew = w42 at BK101 HB hx10_0 hHeld ⊢
        refine pu_ 0 13 1 ?_
        refine pu_ 4 17 17 ?_
        refine tk_ 1 14 19 hHeld ?_
        refine pu_ 2 15 23 ?_
        refine tk_ 3 16 31 hHeld ?_
        refine tk_ 5 18 63 hHeld ?_
        refine one1 6 (some 19) 127 (fun K hK => ?_)
        refine go1 Tryz.func15 #[.int .i64 a0_4] ?_
        with_reducible refine (strconv_Itoa.calls a0_4 t102 _ ?side1 A11.out).mono ?_
        (case side1 => exact Amb.at HG.out blw)
        rintro e w43 ⟨rfl, hb⟩
        refine ⟨_, rfl, ?_⟩
        replace BK101 := Aside0.mk (blk_below (g := gb101) (o := .cells #[.int .i64 a0_0, .string a0_1, .string a0_2, .string a0_3, .int .i64 a0_4] 28 (0, 0)) (bkw BK101) hb)
        replace HB := Aside0.mk (below_step blw hb)
        (try clear hb)
        refine hK.out _ _ ⟨bk_ BK101, bk_ BK101, bk_ BK101, bk_ BK101, bk_ BK101, hc_ hw10_0⟩ (fun hHeld => ?_)
        clear hK K
        refine nm_ (some 19) ?_
        refine pu_ 7 3 255 ?_
        refine pu_ 8 4 511 ?_
        refine done_ (done_of HT_.out (by kernel_rfl)) ?_
        have hcz44_0 : w43.cell? ⟨gb101, 0, none⟩ = some (.int .i64 a0_0) := bk_ BK101
        have hcz44_1 : w43.cell? ⟨gb101, 1, none⟩ = some (.string a0_1) := bk_ BK101
        have hcz44_2 : w43.cell? ⟨gb101, 2, none⟩ = some (.string a0_2) := bk_ BK101
        have hcz44_3 : w43.cell? ⟨gb101, 3, none⟩ = some (.string a0_3) := bk_ BK101
        have hcz44_4 : w43.cell? ⟨gb101, 4, none⟩ = some (.int .i64 a0_4) := bk_ BK101
        have hfz44_0 := blk_frozen BK101.out 0
        have hfz44_1 := blk_frozen BK101.out 1
        have hfz44_2 := blk_frozen BK101.out 2
        have hfz44_3 := blk_frozen BK101.out 3
        have hfz44_4 := blk_frozen BK101.out 4
        try go_wp2
        go_ret
        exact ⟨by first | rfl | (simp [errW_none, errW_some] <;> rfl) | (simp [*, errW_none, errW_some] <;> rfl), blw⟩
       ·rw [if_neg c37] at H
        have c37b0 := beq_eq_false_iff_ne.mpr c37
        have c37b1 := bne_iff_ne.mpr c37
        by_cases c45 : a0_0 = 8
        ·rw [if_pos c45] at H
         have c45b0 := beq_iff_eq.mpr c45
         have c45b1 := bne_eq_false_iff_eq.mpr c45
         clear c45
         obtain ⟨c46, H⟩ := iteS H
         have c46b0 := eq_true c46
         have c46b1 := decide_eq_true c46
         try have c46b2 := eq_false (Nat.not_lt.2 c46)
         obtain ⟨c47, H⟩ := iteS H
         have c47b0 := eq_true c47
         have c47b1 := decide_eq_true c47
         try have c47b2 := eq_false (Nat.not_lt.2 c47)
         obtain ⟨c48, H⟩ := iteS H
         have c48b0 := eq_true c48
         have c48b1 := decide_eq_true c48
         try have c48b2 := eq_false (Nat.not_lt.2 c48)
         obtain ⟨c49, H⟩ := iteS H
         have c49b0 := eq_true c49
         have c49b1 := decide_eq_true c49
         try have c49b2 := eq_false (Nat.not_lt.2 c49)
         obtain rfl := Option.some.inj H
         try go_wp2
         replace BK101 := Aside0.mk (blk_drew BK101.out)
         replace HB := Aside0.mk (below_drew1 HB.out)
         have p10 : 0 ≤ (a0_0 : Int) := od_
         have q10 : (a0_0 : Int) < 14 := od_
         have hw10_0 : w.cell? ⟨0, (a0_0).toNat, none⟩ = some (.string (rdOf ByteArray.empty Tab0 a0_0)) := HG.out.t0 a0_0 p10 q10
         have hx10_0 := (HB.out.cell (World.block_lt_of_cell? w _ hw10_0)).trans hw10_0
         replace p10 := eq_true p10
         replace q10 := eq_true q10
         refine start_ (n := 9) (S := fun w' => w'.cell? ⟨gb101, 0, none⟩ = some (.int .i64 a0_0) ∧ w'.cell? ⟨gb101, 1, none⟩ = some (.string a0_1) ∧ w'.cell? ⟨gb101, 2, none⟩ = some (.string a0_2) ∧ w'.cell? ⟨gb101, 3, none⟩ = some (.string a0_3) ∧ w'.cell? ⟨gb101, 4, none⟩ = some (.int .i64 a0_4) ∧ w'.cell? ⟨0, (a0_0).toNat, none⟩ = some (.string (rdOf ByteArray.empty Tab0 a0_0))) (ds := []) (ba 9 0) (by kernel_rfl) rfl rfl ⟨bk_ BK101, bk_ BK101, bk_ BK101, bk_ BK101, bk_ BK101, hc_ hw10_0⟩ (fun hHeld => ?_); refine with_tabW script_Show.tab3 script_Show.bits3 (fun HT_ HW_ => ?_)
         generalize wc.drew = w50 at BK101 HB hx10_0 hHeld ⊢
         refine pu_ 0 13 1 ?_
         refine pu_ 4 17 17 ?_
         refine tk_ 1 14 19 hHeld ?_
         refine pu_ 2 15 23 ?_
         refine tk_ 3 16 31 hHeld ?_
         refine tk_ 5 18 63 hHeld ?_
         refine one1 6 (some 19) 127 (fun K hK => ?_)
         refine go1 Tryz.func15 #[.int .i64 a0_4] ?_
         with_reducible refine (strconv_Itoa.calls a0_4 t102 _ ?side1 A11.out).mono ?_
         (case side1 => exact Amb.at HG.out blw)
         rintro e w51 ⟨rfl, hb⟩
         refine ⟨_, rfl, ?_⟩
         replace BK101 := Aside0.mk (blk_below (g := gb101) (o := .cells #[.int .i64 a0_0, .string a0_1, .string a0_2, .string a0_3, .int .i64 a0_4] 28 (0, 0)) (bkw BK101) hb)
         replace HB := Aside0.mk (below_step blw hb)
         (try clear hb)
         refine hK.out _ _ ⟨bk_ BK101, bk_ BK101, bk_ BK101, bk_ BK101, bk_ BK101, hc_ hw10_0⟩ (fun hHeld => ?_)
         clear hK K
         refine nm_ (some 19) ?_
         refine pu_ 7 3 255 ?_
         refine pu_ 8 4 511 ?_
         refine done_ (done_of HT_.out (by kernel_rfl)) ?_
         have hcz52_0 : w51.cell? ⟨gb101, 0, none⟩ = some (.int .i64 a0_0) := bk_ BK101
         have hcz52_1 : w51.cell? ⟨gb101, 1, none⟩ = some (.string a0_1) := bk_ BK101
         have hcz52_2 : w51.cell? ⟨gb101, 2, none⟩ = some (.string a0_2) := bk_ BK101
         have hcz52_3 : w51.cell? ⟨gb101, 3, none⟩ = some (.string a0_3) := bk_ BK101
         have hcz52_4 : w51.cell? ⟨gb101, 4, none⟩ = some (.int .i64 a0_4) := bk_ BK101
         have hfz52_0 := blk_frozen BK101.out 0
         have hfz52_1 := blk_frozen BK101.out 1
         have hfz52_2 := blk_frozen BK101.out 2
         have hfz52_3 := blk_frozen BK101.out 3
         have hfz52_4 := blk_frozen BK101.out 4
         try go_wp2
         go_ret
         exact ⟨by first | rfl | (simp [errW_none, errW_some] <;> rfl) | (simp [*, errW_none, errW_some] <;> rfl), blw⟩
        ·rw [if_neg c45] at H
         have c45b0 := beq_eq_false_iff_ne.mpr c45
         have c45b1 := bne_iff_ne.mpr c45
         by_cases c53 : a0_0 = 13
         ·rw [if_pos c53] at H
          have c53b0 := beq_iff_eq.mpr c53
          have c53b1 := bne_eq_false_iff_eq.mpr c53
          clear c53
          obtain ⟨c54, H⟩ := iteS H
          have c54b0 := eq_true c54
          have c54b1 := decide_eq_true c54
          try have c54b2 := eq_false (Nat.not_lt.2 c54)
          obtain ⟨c55, H⟩ := iteS H
          have c55b0 := eq_true c55
          have c55b1 := decide_eq_true c55
          try have c55b2 := eq_false (Nat.not_lt.2 c55)
          obtain ⟨c56, H⟩ := iteS H
          have c56b0 := eq_true c56
          have c56b1 := decide_eq_true c56
          try have c56b2 := eq_false (Nat.not_lt.2 c56)
          obtain ⟨c57, H⟩ := iteS H
          have c57b0 := eq_true c57
          have c57b1 := decide_eq_true c57
          try have c57b2 := eq_false (Nat.not_lt.2 c57)
          obtain rfl := Option.some.inj H
          try go_wp2
          replace BK101 := Aside0.mk (blk_drew BK101.out)
          replace HB := Aside0.mk (below_drew1 HB.out)
          have p10 : 0 ≤ (a0_0 : Int) := od_
          have q10 : (a0_0 : Int) < 14 := od_
          have hw10_0 : w.cell? ⟨0, (a0_0).toNat, none⟩ = some (.string (rdOf ByteArray.empty Tab0 a0_0)) := HG.out.t0 a0_0 p10 q10
          have hx10_0 := (HB.out.cell (World.block_lt_of_cell? w _ hw10_0)).trans hw10_0
          replace p10 := eq_true p10
          replace q10 := eq_true q10
          refine start_ (n := 9) (S := fun w' => w'.cell? ⟨gb101, 0, none⟩ = some (.int .i64 a0_0) ∧ w'.cell? ⟨gb101, 1, none⟩ = some (.string a0_1) ∧ w'.cell? ⟨gb101, 2, none⟩ = some (.string a0_2) ∧ w'.cell? ⟨gb101, 3, none⟩ = some (.string a0_3) ∧ w'.cell? ⟨gb101, 4, none⟩ = some (.int .i64 a0_4) ∧ w'.cell? ⟨0, (a0_0).toNat, none⟩ = some (.string (rdOf ByteArray.empty Tab0 a0_0))) (ds := []) (ba 9 0) (by kernel_rfl) rfl rfl ⟨bk_ BK101, bk_ BK101, bk_ BK101, bk_ BK101, bk_ BK101, hc_ hw10_0⟩ (fun hHeld => ?_); refine with_tabW script_Show.tab3 script_Show.bits3 (fun HT_ HW_ => ?_)
          generalize wc.drew = w58 at BK101 HB hx10_0 hHeld ⊢
          refine pu_ 0 13 1 ?_
          refine pu_ 4 17 17 ?_
          refine tk_ 1 14 19 hHeld ?_
          refine pu_ 2 15 23 ?_
          refine tk_ 3 16 31 hHeld ?_
          refine tk_ 5 18 63 hHeld ?_
          refine one1 6 (some 19) 127 (fun K hK => ?_)
          refine go1 Tryz.func15 #[.int .i64 a0_4] ?_
          with_reducible refine (strconv_Itoa.calls a0_4 t102 _ ?side1 A11.out).mono ?_
          (case side1 => exact Amb.at HG.out blw)
          rintro e w59 ⟨rfl, hb⟩
          refine ⟨_, rfl, ?_⟩
          replace BK101 := Aside0.mk (blk_below (g := gb101) (o := .cells #[.int .i64 a0_0, .string a0_1, .string a0_2, .string a0_3, .int .i64 a0_4] 28 (0, 0)) (bkw BK101) hb)
          replace HB := Aside0.mk (below_step blw hb)
          (try clear hb)
          refine hK.out _ _ ⟨bk_ BK101, bk_ BK101, bk_ BK101, bk_ BK101, bk_ BK101, hc_ hw10_0⟩ (fun hHeld => ?_)
          clear hK K
          refine nm_ (some 19) ?_
          refine pu_ 7 3 255 ?_
          refine pu_ 8 4 511 ?_
          refine done_ (done_of HT_.out (by kernel_rfl)) ?_
          have hcz60_0 : w59.cell? ⟨gb101, 0, none⟩ = some (.int .i64 a0_0) := bk_ BK101
          have hcz60_1 : w59.cell? ⟨gb101, 1, none⟩ = some (.string a0_1) := bk_ BK101
          have hcz60_2 : w59.cell? ⟨gb101, 2, none⟩ = some (.string a0_2) := bk_ BK101
          have hcz60_3 : w59.cell? ⟨gb101, 3, none⟩ = some (.string a0_3) := bk_ BK101
          have hcz60_4 : w59.cell? ⟨gb101, 4, none⟩ = some (.int .i64 a0_4) := bk_ BK101
          have hfz60_0 := blk_frozen BK101.out 0
          have hfz60_1 := blk_frozen BK101.out 1
          have hfz60_2 := blk_frozen BK101.out 2
          have hfz60_3 := blk_frozen BK101.out 3
          have hfz60_4 := blk_frozen BK101.out 4
          try go_wp2
          go_ret
          exact ⟨by first | rfl | (simp [errW_none, errW_some] <;> rfl) | (simp [*, errW_none, errW_some] <;> rfl), blw⟩
         ·rw [if_neg c53] at H
          have c53b0 := beq_eq_false_iff_ne.mpr c53
          have c53b1 := bne_iff_ne.mpr c53
          have HC61 := Aside0.mk H
          clear H
          try go_wp2
          replace BK101 := Aside0.mk (blk_drew BK101.out)
          replace HB := Aside0.mk (below_drew1 HB.out)
          have p10 : 0 ≤ (a0_0 : Int) := od_
          have q10 : (a0_0 : Int) < 14 := od_
          have hw10_0 : w.cell? ⟨0, (a0_0).toNat, none⟩ = some (.string (rdOf ByteArray.empty Tab0 a0_0)) := HG.out.t0 a0_0 p10 q10
          have hx10_0 := (HB.out.cell (World.block_lt_of_cell? w _ hw10_0)).trans hw10_0
          replace p10 := eq_true p10
          replace q10 := eq_true q10
          refine start_ (n := 9) (S := fun w' => w'.cell? ⟨gb101, 0, none⟩ = some (.int .i64 a0_0) ∧ w'.cell? ⟨gb101, 1, none⟩ = some (.string a0_1) ∧ w'.cell? ⟨gb101, 2, none⟩ = some (.string a0_2) ∧ w'.cell? ⟨gb101, 3, none⟩ = some (.string a0_3) ∧ w'.cell? ⟨gb101, 4, none⟩ = some (.int .i64 a0_4) ∧ w'.cell? ⟨0, (a0_0).toNat, none⟩ = some (.string (rdOf ByteArray.empty Tab0 a0_0))) (ds := []) (ba 9 0) (by kernel_rfl) rfl rfl ⟨bk_ BK101, bk_ BK101, bk_ BK101, bk_ BK101, bk_ BK101, hc_ hw10_0⟩ (fun hHeld => ?_); refine with_tabW script_Show.tab3 script_Show.bits3 (fun HT_ HW_ => ?_)
          generalize wc.drew = w62 at BK101 HB hx10_0 hHeld ⊢
          refine pu_ 0 13 1 ?_
          refine pu_ 4 17 17 ?_
          refine tk_ 1 14 19 hHeld ?_
          refine pu_ 2 15 23 ?_
          refine tk_ 3 16 31 hHeld ?_
          refine tk_ 5 18 63 hHeld ?_
          refine one1 6 (some 19) 127 (fun K hK => ?_)
          refine go1 Tryz.func15 #[.int .i64 a0_4] ?_
          with_reducible refine (strconv_Itoa.calls a0_4 t102 _ ?side1 A11.out).mono ?_
          (case side1 => exact Amb.at HG.out blw)
          rintro e w63 ⟨rfl, hb⟩
          refine ⟨_, rfl, ?_⟩
          replace BK101 := Aside0.mk (blk_below (g := gb101) (o := .cells #[.int .i64 a0_0, .string a0_1, .string a0_2, .string a0_3, .int .i64 a0_4] 28 (0, 0)) (bkw BK101) hb)
          replace HB := Aside0.mk (below_step blw hb)
          (try clear hb)
          refine hK.out _ _ ⟨bk_ BK101, bk_ BK101, bk_ BK101, bk_ BK101, bk_ BK101, hc_ hw10_0⟩ (fun hHeld => ?_)
          clear hK K
          refine nm_ (some 19) ?_
          refine pu_ 7 3 255 ?_
          refine pu_ 8 4 511 ?_
          refine done_ (done_of HT_.out (by kernel_rfl)) ?_
          have hcz64_0 : w63.cell? ⟨gb101, 0, none⟩ = some (.int .i64 a0_0) := bk_ BK101
          have hcz64_1 : w63.cell? ⟨gb101, 1, none⟩ = some (.string a0_1) := bk_ BK101
          have hcz64_2 : w63.cell? ⟨gb101, 2, none⟩ = some (.string a0_2) := bk_ BK101
          have hcz64_3 : w63.cell? ⟨gb101, 3, none⟩ = some (.string a0_3) := bk_ BK101
          have hcz64_4 : w63.cell? ⟨gb101, 4, none⟩ = some (.int .i64 a0_4) := bk_ BK101
          have hfz64_0 := blk_frozen BK101.out 0
          have hfz64_1 := blk_frozen BK101.out 1
          have hfz64_2 := blk_frozen BK101.out 2
          have hfz64_3 := blk_frozen BK101.out 3
          have hfz64_4 := blk_frozen BK101.out 4
          go_upto_if 81 with (fail)
          go_cut [81] (fun v81 wc => ∃ (kq : Nat) (x81_60 : Bool), v81 = .bool x81_60 ∧ Aside0 (script_Show.j1 kq (rdOf ByteArray.empty Tab0 a0_0) t102 x81_60 a0_0 a0_1 a0_2 a0_3 a0_4 = some r) ∧ Aside0 (kq ≤ kj1) ∧ Aside0 (wc.heap[gb101]? = some (.cells #[.int .i64 a0_0, .string a0_1, .string a0_2, .string a0_3, .int .i64 a0_4] 28 (0, 0))) ∧ Aside0 (Below w.heap.size w wc))
          case first =>
           have H := HC61.out
           clear HC61
           by_cases c65 : a0_0 = 11
           ·rw [if_pos c65] at H
            have c65b0 := beq_iff_eq.mpr c65
            have c65b1 := bne_eq_false_iff_eq.mpr c65
            clear c65
            (first | rw [c65b0] | (simp only [i64_w, i32_w]; rw [c65b0]) | skip)
            have H' := Aside0.mk H
            clear H
            go_wp2
            go_meet
            case rel => exact ⟨_, ((a0_0 == 11)), eqs, H', ⟨by have := HJ1.out; first | omega | exact Nat.le_refl _⟩, ⟨bkw BK101⟩, ⟨blw⟩⟩
           ·rw [if_neg c65] at H
            have c65b0 := beq_eq_false_iff_ne.mpr c65
            have c65b1 := bne_iff_ne.mpr c65
            (first | rw [c65b0] | (simp only [i64_w, i32_w]; rw [c65b0]) | skip)
            have H' := Aside0.mk H
            clear H
            go_wp2
            go_meet
            case rel => exact ⟨_, ((a0_0 == 12)), eqs, H', ⟨by have := HJ1.out; first | omega | exact Nat.le_refl _⟩, ⟨bkw BK101⟩, ⟨blw⟩⟩
          case rest =>
           clear HC61
           try clear c1
           try clear p1
           try clear q1
           try clear hx1
           try clear p2
           try clear c3
           try clear c4
           try clear c5
           try clear c6
           try clear p10
           try clear q10
           try clear hx10
           try clear c15
           try clear c37
           try clear c37b0
           try clear c37b1
           try clear c38
           try clear c38b2
           try clear c39
           try clear c39b0
           try clear c39b1
           try clear c39b2
           try clear c40
           try clear c40b0
           try clear c40b1
           try clear c40b2
           try clear c41
           try clear c41b0
           try clear c41b1
           try clear c41b2
           try clear c45
           try clear c45b0
           try clear c45b1
           try clear c46
           try clear c46b0
           try clear c46b1
           try clear c46b2
           try clear c47
           try clear c47b0
           try clear c47b1
           try clear c47b2
           try clear c48
           try clear c48b0
           try clear c48b1
           try clear c48b2
           try clear c49
           try clear c49b0
           try clear c49b1
           try clear c49b2
           try clear c53
           try clear c53b0
           try clear c53b1
           try clear c54
           try clear c54b0
           try clear c54b1
           try clear c54b2
           try clear c55
           try clear c55b0
           try clear c55b1
           try clear c55b2
           try clear c56
           try clear c56b0
           try clear c56b1
           try clear c56b2
           try clear c57
           try clear c57b0
           try clear c57b1
           try clear c57b2
           try clear c65
           try clear c65b0
           try clear c65b1
           try clear hcz44_0 hcz44_1 hcz44_2 hcz44_3 hcz44_4
           try clear hcz52_0 hcz52_1 hcz52_2 hcz52_3 hcz52_4
           try clear hcz60_0 hcz60_1 hcz60_2 hcz60_3 hcz60_4
           try clear hcz64_0 hcz64_1 hcz64_2 hcz64_3 hcz64_4
           try clear hfz44_0 hfz44_1 hfz44_2 hfz44_3 hfz44_4
           try clear hfz52_0 hfz52_1 hfz52_2 hfz52_3 hfz52_4
           try clear hfz60_0 hfz60_1 hfz60_2 hfz60_3 hfz60_4
           try clear hfz64_0 hfz64_1 hfz64_2 hfz64_3 hfz64_4
           try clear hx10_0
           try clear p10
           try clear q10
           obtain ⟨kq, x81_60, rfl, HA, HJ60, BK101, HB⟩ := hcut
           cases kq with
           | zero => exact absurd HA.out (by simp [script_Show.j1])
           | succ kj60 =>
            have H := HA.out
            clear HA
            simp only [script_Show.j1] at H
            by_cases c66 : x81_60 = true
            ·subst c66
             rw [if_pos rfl] at H
             by_cases c67 : a0_4 = 1
             ·rw [if_pos c67] at H
              have c67b0 := beq_iff_eq.mpr c67
              have c67b1 := bne_eq_false_iff_eq.mpr c67
              clear c67
              obtain ⟨c68, H⟩ := iteS H
              have c68b0 := eq_true c68
              have c68b1 := decide_eq_true c68
              try have c68b2 := eq_false (Nat.not_lt.2 c68)
              obtain rfl := Option.some.inj H
              have hcz69_0 : wc.cell? ⟨gb101, 0, none⟩ = some (.int .i64 a0_0) := bk_ BK101
              have hcz69_1 : wc.cell? ⟨gb101, 1, none⟩ = some (.string a0_1) := bk_ BK101
              have hcz69_2 : wc.cell? ⟨gb101, 2, none⟩ = some (.string a0_2) := bk_ BK101
              have hcz69_3 : wc.cell? ⟨gb101, 3, none⟩ = some (.string a0_3) := bk_ BK101
              have hcz69_4 : wc.cell? ⟨gb101, 4, none⟩ = some (.int .i64 a0_4) := bk_ BK101
              have hfz69_0 := blk_frozen BK101.out 0
              have hfz69_1 := blk_frozen BK101.out 1
              have hfz69_2 := blk_frozen BK101.out 2
              have hfz69_3 := blk_frozen BK101.out 3
              have hfz69_4 := blk_frozen BK101.out 4
              go_wp2
              go_ret
              exact ⟨by first | rfl | (simp [errW_none, errW_some] <;> rfl) | (simp [*, errW_none, errW_some] <;> rfl), blw⟩
             ·rw [if_neg c67] at H
              have c67b0 := beq_eq_false_iff_ne.mpr c67
              have c67b1 := bne_iff_ne.mpr c67
              obtain ⟨c70, H⟩ := iteS H
              have c70b0 := eq_true c70
              have c70b1 := decide_eq_true c70
              try have c70b2 := eq_false (Nat.not_lt.2 c70)
              obtain rfl := Option.some.inj H
              have hcz71_0 : wc.cell? ⟨gb101, 0, none⟩ = some (.int .i64 a0_0) := bk_ BK101
              have hcz71_1 : wc.cell? ⟨gb101, 1, none⟩ = some (.string a0_1) := bk_ BK101
              have hcz71_2 : wc.cell? ⟨gb101, 2, none⟩ = some (.string a0_2) := bk_ BK101
              have hcz71_3 : wc.cell? ⟨gb101, 3, none⟩ = some (.string a0_3) := bk_ BK101
              have hcz71_4 : wc.cell? ⟨gb101, 4, none⟩ = some (.int .i64 a0_4) := bk_ BK101
              have hfz71_0 := blk_frozen BK101.out 0
              have hfz71_1 := blk_frozen BK101.out 1
              have hfz71_2 := blk_frozen BK101.out 2
              have hfz71_3 := blk_frozen BK101.out 3
              have hfz71_4 := blk_frozen BK101.out 4
              go_wp2
              go_ret
              exact ⟨by first | rfl | (simp [errW_none, errW_some] <;> rfl) | (simp [*, errW_none, errW_some] <;> rfl), blw⟩
            ·replace c66 := Bool.eq_false_iff.mpr c66
             subst c66
             rw [if_neg nft] at H
             obtain ⟨c72, H⟩ := iteS H
             have c72b0 := eq_true c72
             have c72b1 := decide_eq_true c72
             try have c72b2 := eq_false (Nat.not_lt.2 c72)
             obtain ⟨c73, H⟩ := iteS H
             have c73b0 := eq_true c73
             have c73b1 := decide_eq_true c73
             try have c73b2 := eq_false (Nat.not_lt.2 c73)
             obtain rfl := Option.some.inj H
             go_wp2
             go_ret
             exact ⟨by first | rfl | (simp [errW_none, errW_some] <;> rfl) | (simp [*, errW_none, errW_some] <;> rfl), blw⟩

end Go.Proofs.YtcgfaagadejpmaaGreatDoor.Q
