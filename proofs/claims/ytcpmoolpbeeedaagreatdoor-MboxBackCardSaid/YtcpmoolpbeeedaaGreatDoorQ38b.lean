-- Written by a program of this session (wip/myprint) out of the translation, for YtcpmoolpbeeedaaGreatDoor.
import Derived.Test.YtcpmoolpbeeedaaGreatDoorQ0
import Derived.Test.YtcpmoolpbeeedaaGreatDoorQ23e
import Derived.Test.YtcpmoolpbeeedaaGreatDoorQ123
namespace Go.Proofs.YtcpmoolpbeeedaaGreatDoor.Q
open Go.RowKit Go.Proofs.YtcpmoolpbeeedaaGreatDoorW.PrintWords Go.Proofs.YtcpmoolpbeeedaaGreatDoorW.PrintLast Go.Proofs.YtcpmoolpbeeedaaGreatDoorW.PrintMore Go.Proofs.YtcpmoolpbeeedaaGreatDoorW.PrintSq
attribute [local go_sem] max2_int min2_int max_two min_two max_three min_three max_four min_four   -- for this text's walks alone
set_option linter.unusedVariables false
set_option linter.unusedSimpArgs false

attribute [local go_sem high] eqA34
/-! ### bulletinlaw23_Same: function 22 -/
def bulletinlaw23_Same.l0 : Nat → List (S34) → List (S28) → Bool → Int → Option (Bool)
  | 0, _, _, _, _ => none
  | k + 1, x0, x1, x5, x6 => if x5 = true then (if x6 < (x0.length : Int) then (if x6 < (x1.length : Int) then (if 0 ≤ x6 then ((bulletinlaw23_To.f ((rd_T28 x1 x6).f0.f0) ((rd_T28 x1 x6).f0.f1) ((rd_T28 x1 x6).f1) ((rd_T28 x1 x6).f2)).bind fun bt602 => (bulletinlaw23_Same.l0 k x0 x1 (((((rd_T34 x0 x6).f0.f0).toList) == bt602.1.toList && ((((rd_T34 x0 x6).f0.f1).toList) == bt602.2.1.toList)) && (((rd_T34 x0 x6).f1) == bt602.2.2.1 && ((((rd_T34 x0 x6).f2).toList) == bt602.2.2.2.toList))) (wrap64 (x6 + 1)))) else (none)) else (some x5)) else (some x5)) else (some x5)
def bulletinlaw23_Same.f (k : Nat) (l0 : List (S34)) (l1 : List (S28)) : Option (Bool) := bulletinlaw23_Same.l0 k l0 l1 ((l0.length : Int) == (l1.length : Int)) 0
theorem bulletinlaw23_Same.mono_l : ∀ k, (∀ y0 y1 y2 y3, LeO (bulletinlaw23_Same.l0 k y0 y1 y2 y3) (bulletinlaw23_Same.l0 (k + 1) y0 y1 y2 y3))
  | 0 => fun _ _ _ _ r h => by simp [bulletinlaw23_Same.l0] at h
  | k + 1 => by
    have ih0 := bulletinlaw23_Same.mono_l k
    · intro y0 y1 y2 y3
      unfold bulletinlaw23_Same.l0
      repeat' first | (with_reducible first | exact ih0 _ _ _ _ | exact LeO.refl _ | exact LeO.none _ | refine LeO.ite ?_ ?_ | refine LeO.bind ?_ (fun _ => ?_)) | exact ih0 _ _ _ _ | exact LeO.none _ | refine LeO.ite ?_ ?_ | refine LeO.bind ?_ (fun _ => ?_)
theorem bulletinlaw23_Same.mono : ∀ a0 a1 k, LeO (bulletinlaw23_Same.f k a0 a1) (bulletinlaw23_Same.f (k + 1) a0 a1) := by
  intro a0 a1 k
  have ih0 := bulletinlaw23_Same.mono_l k
  unfold bulletinlaw23_Same.f
  repeat' first | (with_reducible first | exact ih0 _ _ _ _ | exact LeO.refl _ | exact LeO.none _ | refine LeO.ite ?_ ?_ | refine LeO.bind ?_ (fun _ => ?_)) | exact ih0 _ _ _ _ | exact LeO.none _ | refine LeO.ite ?_ ?_ | refine LeO.bind ?_ (fun _ => ?_)
def bulletinlaw23_Same.T5 : Bool × List (List Nat × List Nat) := (true, [([], []), ([], []), ([0, 1], [0, 1]), ([2], [2]), ([], []), ([], []), ([4, 5], [4, 5]), ([6], [6]), ([7], [7]), ([3, 8], [3, 8]), ([9, 8, 0, 1, 2, 3, 4, 5, 6, 7, 8, 9], [9])])
def bulletinlaw23_Same.B5 : List Nat := [0, 0, 3, 7, 0, 0, 48, 112, 240, 511, 1023]
theorem bulletinlaw23_Same.tab5 : rtab .any (opsOf Tryz.f22 5) = bulletinlaw23_Same.T5 := by kernel_rfl
theorem bulletinlaw23_Same.bits5 : waitsOk bulletinlaw23_Same.T5.2 bulletinlaw23_Same.B5 = true := by kernel_rfl
set_option maxHeartbeats 8000000 in
set_option maxRecDepth 100000 in
theorem bulletinlaw23_Same.calls (k : Nat) (A0 : Option Addr) (c0 : Nat) (l0 : List (S34)) (A1 : Option Addr) (c1 : Nat) (l1 : List (S28)) (r : Bool) (w : World) (hr0 : Kd.C k34 w A0 l0.length l0) (hc0 : l0.length ≤ c0) (hr1 : Kd.C k28 w A1 l1.length l1) (hc1 : l1.length ≤ c1) (h : bulletinlaw23_Same.f k l0 l1 = some r) :
    Calls Tryz.prog 22 #[.slice A0 l0.length c0, .slice A1 l1.length c1] w fun e w' => e = .returned (.bool r) ∧ Below w.heap.size w w' := by
 have hu34 := Tryz.underlying34
 have hu28 := Tryz.underlying28
 have HR0 := Aside0.mk hr0
 have HC0 := Aside0.mk hc0
 clear hr0 hc0
 have HR1 := Aside0.mk hr1
 have HC1 := Aside0.mk hc1
 clear hr1 hc1
 have HB := Aside0.mk (Below.refl w.heap.size w)
 unfold bulletinlaw23_Same.f at h
 have H := h
 clear h
 have H' := Aside0.mk H
 clear H
 go_enter Tryz.func22, Tryz.ntmps22
 go_wp2
 go_loopg [5, 6] k (fun kq v5 v6 w' => ∃ (x5_1 : Bool) (x6_1 : Int), v5 = .bool x5_1 ∧ v6 = .int .i64 x6_1 ∧ Aside0 (bulletinlaw23_Same.l0 kq l0 l1 x5_1 x6_1 = some r) ∧ Aside0 (kq ≤ k) ∧ Aside0 (Below w.heap.size w w'))
 case atStart => exact ⟨(((l0.length : Int) == (l1.length : Int))), (0), eqs, eqs, H', ⟨Nat.le_refl _⟩, ⟨blw⟩⟩
 case round =>
  clear H'
  try clear c1
  try clear c2
  try clear p2
  obtain ⟨x5_1, x6_1, rfl, rfl, HA, HK1, HB⟩ := hrel
  cases gk with
  | zero => exact absurd HA.out (by simp [bulletinlaw23_Same.l0])
  | succ k1 =>
   have H := HA.out
   clear HA
   simp only [bulletinlaw23_Same.l0] at H
   by_cases c3 : x5_1 = true
   ·subst c3
    rw [if_pos rfl] at H
    by_cases c4 : x6_1 < (l0.length : Int)
    ·rw [if_pos c4] at H
     have c4b0 := decide_eq_true c4
     clear c4
     by_cases c5 : x6_1 < (l1.length : Int)
     ·rw [if_pos c5] at H
      have c5b0 := decide_eq_true c5
      clear c5
      obtain ⟨c6, H⟩ := iteS H
      have c6b0 := decide_eq_true c6
      clear c6
      replace H := Option.bind_eq_some_iff.mp H
      obtain ⟨⟨t602, t603, t604, t605⟩, A70, H⟩ := H
      try dsimp only at H
      have A7 := Aside0.mk A70
      clear A70
      have H' := Aside0.mk H
      clear H
      try go_wp2
      replace HB := Aside0.mk (below_drew1 HB.out)
      have p600 : 0 ≤ (x6_1 : Int) := od_
      have q600 : x6_1 < (l0.length : Int) := od_
      obtain ⟨ad600, e600, hx600_0, hx600_1, hx600_2, hx600_3⟩ := at_T34 HR0.out x6_1 p600 q600
      have hw600_3 := hx600_3
      have hw600_2 := hx600_2
      have hw600_1 := hx600_1
      have hw600_0 := hx600_0
      cases e600
      replace hx600_0 := (HB.out.cell (World.block_lt_of_cell? w _ hx600_0)).trans hx600_0
      replace hx600_1 := (HB.out.cell (World.block_lt_of_cell? w _ hx600_1)).trans hx600_1
      replace hx600_2 := (HB.out.cell (World.block_lt_of_cell? w _ hx600_2)).trans hx600_2
      replace hx600_3 := (HB.out.cell (World.block_lt_of_cell? w _ hx600_3)).trans hx600_3
      replace p600 := eq_true p600
      replace q600 := eq_true q600
      have p601 : 0 ≤ (x6_1 : Int) := od_
      have q601 : x6_1 < (l1.length : Int) := od_
      obtain ⟨ad601, e601, hx601_0, hx601_1, hx601_2, hx601_3⟩ := at_T28 HR1.out x6_1 p601 q601
      have hw601_3 := hx601_3
      have hw601_2 := hx601_2
      have hw601_1 := hx601_1
      have hw601_0 := hx601_0
      cases e601
      replace hx601_0 := (HB.out.cell (World.block_lt_of_cell? w _ hx601_0)).trans hx601_0
      replace hx601_1 := (HB.out.cell (World.block_lt_of_cell? w _ hx601_1)).trans hx601_1
      replace hx601_2 := (HB.out.cell (World.block_lt_of_cell? w _ hx601_2)).trans hx601_2
      replace hx601_3 := (HB.out.cell (World.block_lt_of_cell? w _ hx601_3)).trans hx601_3
      replace p601 := eq_true p601
      replace q601 := eq_true q601
      refine start_ (n := 11) (S := fun w' => w'.cell? (ad600.add ((x6_1).toNat * 4)) = some (.string ((rd_T34 l0 x6_1).f0.f0)) ∧ w'.cell? ⟨(ad600.add ((x6_1).toNat * 4)).block, (ad600.add ((x6_1).toNat * 4)).off + 1, none⟩ = some (.string ((rd_T34 l0 x6_1).f0.f1)) ∧ w'.cell? ⟨(ad600.add ((x6_1).toNat * 4)).block, (ad600.add ((x6_1).toNat * 4)).off + 2, none⟩ = some (.int .i64 ((rd_T34 l0 x6_1).f1)) ∧ w'.cell? ⟨(ad600.add ((x6_1).toNat * 4)).block, (ad600.add ((x6_1).toNat * 4)).off + 3, none⟩ = some (.string ((rd_T34 l0 x6_1).f2)) ∧ w'.cell? (ad601.add ((x6_1).toNat * 4)) = some (.string ((rd_T28 l1 x6_1).f0.f0)) ∧ w'.cell? ⟨(ad601.add ((x6_1).toNat * 4)).block, (ad601.add ((x6_1).toNat * 4)).off + 1, none⟩ = some (.string ((rd_T28 l1 x6_1).f0.f1)) ∧ w'.cell? ⟨(ad601.add ((x6_1).toNat * 4)).block, (ad601.add ((x6_1).toNat * 4)).off + 2, none⟩ = some (.int .i64 ((rd_T28 l1 x6_1).f1)) ∧ w'.cell? ⟨(ad601.add ((x6_1).toNat * 4)).block, (ad601.add ((x6_1).toNat * 4)).off + 3, none⟩ = some (.string ((rd_T28 l1 x6_1).f2))) (ds := []) (ba 11 0) (by kernel_rfl) rfl rfl ⟨hc_ hw600_0, hc_ hw600_1, hc_ hw600_2, hc_ hw600_3, hc_ hw601_0, hc_ hw601_1, hc_ hw601_2, hc_ hw601_3⟩ (fun hHeld => ?_); refine with_tabW bulletinlaw23_Same.tab5 bulletinlaw23_Same.bits5 (fun HT_ HW_ => ?_)
      generalize wr.drew = w8 at HB hx600_0 hx600_1 hx600_2 hx600_3 hx601_0 hx601_1 hx601_2 hx601_3 hHeld ⊢
      refine pu_ 0 27 1 ?_
      refine pu_ 1 28 3 ?_
      refine pu_ 2 29 7 ?_
      refine pu_ 4 31 23 ?_
      refine pu_ 5 32 55 ?_
      refine pu_ 6 33 119 ?_
      refine tk_ 3 30 127 hHeld ?_
      refine tk_ 7 34 255 hHeld ?_
      refine one1 8 (some 35) 511 (fun K hK => ?_)
      refine go1 Tryz.func16 #[.agg #[.string ((rd_T28 l1 x6_1).f0.f0), .string ((rd_T28 l1 x6_1).f0.f1), .int .i64 ((rd_T28 l1 x6_1).f1), .string ((rd_T28 l1 x6_1).f2)]] ?_
      with_reducible refine (bulletinlaw23_To.calls ((rd_T28 l1 x6_1).f0.f0) ((rd_T28 l1 x6_1).f0.f1) ((rd_T28 l1 x6_1).f1) ((rd_T28 l1 x6_1).f2) t602 t603 t604 t605 _ A7.out).mono ?_
      rintro e w9 ⟨rfl, hb⟩
      refine ⟨_, rfl, ?_⟩
      replace HB := Aside0.mk (below_step blw hb)
      (try clear hb)
      refine hK.out _ _ ⟨hc_ hw600_0, hc_ hw600_1, hc_ hw600_2, hc_ hw600_3, hc_ hw601_0, hc_ hw601_1, hc_ hw601_2, hc_ hw601_3⟩ (fun hHeld => ?_)
      clear hK K
      refine nm_ (some 35) ?_
      refine pu_ 9 36 1023 ?_
      refine pu_ 10 5 2047 ?_
      refine done_ (done_of HT_.out (by kernel_rfl)) ?_
      try go_wp2
      go_roundg k1
      case measure => have := HK1.out; omega
      case rel => exact ⟨((((((rd_T34 l0 x6_1).f0.f0).toList) == t602.toList && ((((rd_T34 l0 x6_1).f0.f1).toList) == t603.toList)) && (((rd_T34 l0 x6_1).f1) == t604 && ((((rd_T34 l0 x6_1).f2).toList) == t605.toList)))), (wrap64 (x6_1 + 1)), eqs, eqs, H', ⟨by have := HK1.out; omega⟩, ⟨blw⟩⟩
     ·rw [if_neg c5] at H
      have c5b0 := decide_eq_false c5
      clear c5
      obtain rfl := Option.some.inj H
      go_wp2
      go_ret
      exact ⟨by first | rfl | (simp [errW_none, errW_some] <;> rfl) | (simp [*, errW_none, errW_some] <;> rfl), blw⟩
    ·rw [if_neg c4] at H
     have c4b0 := decide_eq_false c4
     clear c4
     obtain rfl := Option.some.inj H
     go_wp2
     go_ret
     exact ⟨by first | rfl | (simp [errW_none, errW_some] <;> rfl) | (simp [*, errW_none, errW_some] <;> rfl), blw⟩
   ·replace c3 := Bool.eq_false_iff.mpr c3
    subst c3
    rw [if_neg nft] at H
    obtain rfl := Option.some.inj H
    go_wp2
    go_ret
    exact ⟨by first | rfl | (simp [errW_none, errW_some] <;> rfl) | (simp [*, errW_none, errW_some] <;> rfl), blw⟩
end Go.Proofs.YtcpmoolpbeeedaaGreatDoor.Q
