-- Written by a program of this session (wip/myprint) out of the translation, for YtcpmoolpbeeedaaGreatDoor.
import Derived.Test.YtcpmoolpbeeedaaGreatDoorQ0
namespace Go.Proofs.YtcpmoolpbeeedaaGreatDoor.Q
open Go.RowKit Go.Proofs.YtcpmoolpbeeedaaGreatDoorW.PrintWords Go.Proofs.YtcpmoolpbeeedaaGreatDoorW.PrintLast Go.Proofs.YtcpmoolpbeeedaaGreatDoorW.PrintMore Go.Proofs.YtcpmoolpbeeedaaGreatDoorW.PrintSq
attribute [local go_sem] max2_int min2_int max_two min_two max_three min_three max_four min_four   -- for this text's walks alone
set_option linter.unusedVariables false
set_option linter.unusedSimpArgs false

/-! ### bulletinlaw23_light: function 14 -/
mutual
def bulletinlaw23_light.l0 : Nat → List (S28) → Int → Option (Bool)
  | 0, _, _ => none
  | k + 1, x0, x3 => if x3 < (x0.length : Int) then (bulletinlaw23_light.j1 k x0 x3 (decide (x3 < 10))) else (bulletinlaw23_light.j1 k x0 x3 false)
def bulletinlaw23_light.j1 : Nat → List (S28) → Int → Bool → Option (Bool)
  | 0, _, _, _ => none
  | k + 1, x0, x3, x11 => if x11 = true then (if 0 ≤ x3 then (if x3 < (x0.length : Int) then (if (((rd_T28 x0 x3).f2).size : Int) > 1000 then (some false) else (if (((rd_T28 x0 x3).f0.f0).size : Int) > 300 then (some false) else (if (((rd_T28 x0 x3).f0.f1).size : Int) > 300 then (some false) else (bulletinlaw23_light.l0 k x0 (wrap64 (x3 + 1)))))) else (none)) else (none)) else (some (decide ((x0.length : Int) ≤ 10)))
end
def bulletinlaw23_light.f (k : Nat) (l0 : List (S28)) : Option (Bool) := bulletinlaw23_light.l0 k l0 0
theorem bulletinlaw23_light.mono_l : ∀ k, (∀ y0 y1, LeO (bulletinlaw23_light.l0 k y0 y1) (bulletinlaw23_light.l0 (k + 1) y0 y1)) ∧ (∀ y0 y1 y2, LeO (bulletinlaw23_light.j1 k y0 y1 y2) (bulletinlaw23_light.j1 (k + 1) y0 y1 y2))
  | 0 => ⟨fun _ _ r h => by simp [bulletinlaw23_light.l0] at h, fun _ _ _ r h => by simp [bulletinlaw23_light.j1] at h⟩
  | k + 1 => by
    obtain ⟨ih0, ih1⟩ := bulletinlaw23_light.mono_l k
    refine ⟨?_, ?_⟩
    · intro y0 y1
      unfold bulletinlaw23_light.l0
      repeat' first | (with_reducible first | exact ih0 _ _ | exact ih1 _ _ _ | exact LeO.refl _ | exact LeO.none _ | refine LeO.ite ?_ ?_ | refine LeO.bind ?_ (fun _ => ?_)) | exact ih0 _ _ | exact ih1 _ _ _ | exact LeO.none _ | refine LeO.ite ?_ ?_ | refine LeO.bind ?_ (fun _ => ?_)
    · intro y0 y1 y2
      unfold bulletinlaw23_light.j1
      repeat' first | (with_reducible first | exact ih0 _ _ | exact ih1 _ _ _ | exact LeO.refl _ | exact LeO.none _ | refine LeO.ite ?_ ?_ | refine LeO.bind ?_ (fun _ => ?_)) | exact ih0 _ _ | exact ih1 _ _ _ | exact LeO.none _ | refine LeO.ite ?_ ?_ | refine LeO.bind ?_ (fun _ => ?_)
theorem bulletinlaw23_light.mono : ∀ a0 k, LeO (bulletinlaw23_light.f k a0) (bulletinlaw23_light.f (k + 1) a0) := by
  intro a0 k
  obtain ⟨ih0, ih1⟩ := bulletinlaw23_light.mono_l k
  unfold bulletinlaw23_light.f
  repeat' first | (with_reducible first | exact ih0 _ _ | exact ih1 _ _ _ | exact LeO.refl _ | exact LeO.none _ | refine LeO.ite ?_ ?_ | refine LeO.bind ?_ (fun _ => ?_)) | exact ih0 _ _ | exact ih1 _ _ _ | exact LeO.none _ | refine LeO.ite ?_ ?_ | refine LeO.bind ?_ (fun _ => ?_)
set_option maxHeartbeats 8000000 in
set_option maxRecDepth 100000 in
theorem bulletinlaw23_light.calls (k : Nat) (A0 : Option Addr) (c0 : Nat) (l0 : List (S28)) (r : Bool) (w : World) (hr0 : Kd.C k28 w A0 l0.length l0) (hc0 : l0.length ≤ c0) (h : bulletinlaw23_light.f k l0 = some r) :
    Calls Tryz.prog 14 #[.slice A0 l0.length c0] w fun e w' => e = .returned (.bool r) ∧ Drawn0 w w' := by
 have HR0 := Aside0.mk hr0
 have HC0 := Aside0.mk hc0
 clear hr0 hc0
 unfold bulletinlaw23_light.f at h
 have H := h
 clear h
 have H' := Aside0.mk H
 clear H
 go_enter Tryz.func14, Tryz.ntmps14
 go_wp2
 go_loopg [3] k (fun kq v3 w' => ∃ (x3_1 : Int), v3 = .int .i64 x3_1 ∧ Aside0 (bulletinlaw23_light.l0 kq l0 x3_1 = some r) ∧ Aside0 (kq ≤ k) ∧ Drawn0 w w')
 case atStart => exact ⟨(0), eqs, H', ⟨Nat.le_refl _⟩, drw⟩
 case round =>
  clear H'
  try clear c1
  obtain ⟨x3_1, rfl, HA, HK1, ⟨m1, rfl⟩⟩ := hrel
  cases gk with
  | zero => exact absurd HA.out (by simp [bulletinlaw23_light.l0])
  | succ k1 =>
   have H := HA.out
   clear HA
   simp only [bulletinlaw23_light.l0] at H
   have HC2 := Aside0.mk H
   clear H
   go_upto_region 2 with (fail)
   go_cut [11] (fun v11 wc => ∃ (kq : Nat) (x11_1 : Bool), v11 = .bool x11_1 ∧ Aside0 (bulletinlaw23_light.j1 kq l0 x3_1 x11_1 = some r) ∧ Aside0 (kq ≤ k1) ∧ Drawn0 w wc)
   case first =>
    have H := HC2.out
    clear HC2
    by_cases c3 : x3_1 < (l0.length : Int)
    ·rw [if_pos c3] at H
     have c3b0 := decide_eq_true c3
     clear c3
     (first | rw [c3b0] | (simp only [i64_w, i32_w]; rw [c3b0]) | skip)
     have H' := Aside0.mk H
     clear H
     go_wp2
     go_meet
     case rel => exact ⟨_, (decide (x3_1 < 10)), eqs, H', ⟨by have := HK1.out; first | omega | exact Nat.le_refl _⟩, drw⟩
    ·rw [if_neg c3] at H
     have c3b0 := decide_eq_false c3
     clear c3
     (first | rw [c3b0] | (simp only [i64_w, i32_w]; rw [c3b0]) | skip)
     have H' := Aside0.mk H
     clear H
     go_wp2
     go_meet
     case rel => exact ⟨_, (false), eqs, H', ⟨by have := HK1.out; first | omega | exact Nat.le_refl _⟩, drw⟩
   case rest =>
    clear HC2
    try clear c1
    try clear p2
    try clear c3
    try clear c3b0
    obtain ⟨kq, x11_1, rfl, HA, HJ1, ⟨mc1, rfl⟩⟩ := hcut
    cases kq with
    | zero => exact absurd HA.out (by simp [bulletinlaw23_light.j1])
    | succ kj1 =>
     have H := HA.out
     clear HA
     simp only [bulletinlaw23_light.j1] at H
     by_cases c4 : x11_1 = true
     ·subst c4
      rw [if_pos rfl] at H
      obtain ⟨c5, H⟩ := iteS H
      have c5b0 := decide_eq_true c5
      clear c5
      obtain ⟨c6, H⟩ := iteS H
      have c6b0 := decide_eq_true c6
      clear c6
      by_cases c7 : (((rd_T28 l0 x3_1).f2).size : Int) > 1000
      ·rw [if_pos c7] at H
       have c7b0 : decide (1000 < (((rd_T28 l0 x3_1).f2).size : Int)) = true := decide_eq_true c7
       have c7b1 : decide (1000 < ((rd_T28 l0 x3_1).f2).size) = true := decide_eq_true (by omega)
       clear c7
       obtain rfl := Option.some.inj H
       have p423 : 0 ≤ (x3_1 : Int) := od_
       have q423 : x3_1 < (l0.length : Int) := od_
       obtain ⟨ad423, e423, hx423_0, hx423_1, hx423_2, hx423_3⟩ := at_T28 HR0.out x3_1 p423 q423
       cases e423
       replace p423 := eq_true p423
       replace q423 := eq_true q423
       go_wp2
       go_ret
       exact ⟨eqs, drw⟩
      ·rw [if_neg c7] at H
       have c7b0 : decide (1000 < (((rd_T28 l0 x3_1).f2).size : Int)) = false := decide_eq_false c7
       have c7b1 : decide (1000 < ((rd_T28 l0 x3_1).f2).size) = false := decide_eq_false (by omega)
       clear c7
       by_cases c8 : (((rd_T28 l0 x3_1).f0.f0).size : Int) > 300
       ·rw [if_pos c8] at H
        have c8b0 : decide (300 < (((rd_T28 l0 x3_1).f0.f0).size : Int)) = true := decide_eq_true c8
        have c8b1 : decide (300 < ((rd_T28 l0 x3_1).f0.f0).size) = true := decide_eq_true (by omega)
        clear c8
        obtain rfl := Option.some.inj H
        have p423 : 0 ≤ (x3_1 : Int) := od_
        have q423 : x3_1 < (l0.length : Int) := od_
        obtain ⟨ad423, e423, hx423_0, hx423_1, hx423_2, hx423_3⟩ := at_T28 HR0.out x3_1 p423 q423
        cases e423
        replace p423 := eq_true p423
        replace q423 := eq_true q423
        have p424 : 0 ≤ (x3_1 : Int) := od_
        have q424 : x3_1 < (l0.length : Int) := od_
        obtain ⟨ad424, e424, hx424_0, hx424_1, hx424_2, hx424_3⟩ := at_T28 HR0.out x3_1 p424 q424
        obtain rfl : ad423 = ad424 := (by injection e424)
        replace p424 := eq_true p424
        replace q424 := eq_true q424
        go_wp2
        go_ret
        exact ⟨eqs, drw⟩
       ·rw [if_neg c8] at H
        have c8b0 : decide (300 < (((rd_T28 l0 x3_1).f0.f0).size : Int)) = false := decide_eq_false c8
        have c8b1 : decide (300 < ((rd_T28 l0 x3_1).f0.f0).size) = false := decide_eq_false (by omega)
        clear c8
        by_cases c9 : (((rd_T28 l0 x3_1).f0.f1).size : Int) > 300
        ·rw [if_pos c9] at H
         have c9b0 : decide (300 < (((rd_T28 l0 x3_1).f0.f1).size : Int)) = true := decide_eq_true c9
         have c9b1 : decide (300 < ((rd_T28 l0 x3_1).f0.f1).size) = true := decide_eq_true (by omega)
         clear c9
         obtain rfl := Option.some.inj H
         have p423 : 0 ≤ (x3_1 : Int) := od_
         have q423 : x3_1 < (l0.length : Int) := od_
         obtain ⟨ad423, e423, hx423_0, hx423_1, hx423_2, hx423_3⟩ := at_T28 HR0.out x3_1 p423 q423
         cases e423
         replace p423 := eq_true p423
         replace q423 := eq_true q423
         have p424 : 0 ≤ (x3_1 : Int) := od_
         have q424 : x3_1 < (l0.length : Int) := od_
         obtain ⟨ad424, e424, hx424_0, hx424_1, hx424_2, hx424_3⟩ := at_T28 HR0.out x3_1 p424 q424
         obtain rfl : ad423 = ad424 := (by injection e424)
         replace p424 := eq_true p424
         replace q424 := eq_true q424
         have p425 : 0 ≤ (x3_1 : Int) := od_
         have q425 : x3_1 < (l0.length : Int) := od_
         obtain ⟨ad425, e425, hx425_0, hx425_1, hx425_2, hx425_3⟩ := at_T28 HR0.out x3_1 p425 q425
         obtain rfl : ad423 = ad425 := (by injection e425)
         replace p425 := eq_true p425
         replace q425 := eq_true q425
         go_wp2
         go_ret
         exact ⟨eqs, drw⟩
        ·rw [if_neg c9] at H
         have c9b0 : decide (300 < (((rd_T28 l0 x3_1).f0.f1).size : Int)) = false := decide_eq_false c9
         have c9b1 : decide (300 < ((rd_T28 l0 x3_1).f0.f1).size) = false := decide_eq_false (by omega)
         clear c9
         have H' := Aside0.mk H
         clear H
         have p423 : 0 ≤ (x3_1 : Int) := od_
         have q423 : x3_1 < (l0.length : Int) := od_
         obtain ⟨ad423, e423, hx423_0, hx423_1, hx423_2, hx423_3⟩ := at_T28 HR0.out x3_1 p423 q423
         cases e423
         replace p423 := eq_true p423
         replace q423 := eq_true q423
         have p424 : 0 ≤ (x3_1 : Int) := od_
         have q424 : x3_1 < (l0.length : Int) := od_
         obtain ⟨ad424, e424, hx424_0, hx424_1, hx424_2, hx424_3⟩ := at_T28 HR0.out x3_1 p424 q424
         obtain rfl : ad423 = ad424 := (by injection e424)
         replace p424 := eq_true p424
         replace q424 := eq_true q424
         have p425 : 0 ≤ (x3_1 : Int) := od_
         have q425 : x3_1 < (l0.length : Int) := od_
         obtain ⟨ad425, e425, hx425_0, hx425_1, hx425_2, hx425_3⟩ := at_T28 HR0.out x3_1 p425 q425
         obtain rfl : ad423 = ad425 := (by injection e425)
         replace p425 := eq_true p425
         replace q425 := eq_true q425
         go_wp2
         go_roundg kj1
         case measure => have := HK1.out; have := HJ1.out; omega
         case rel => exact ⟨(wrap64 (x3_1 + 1)), eqs, H', ⟨by have := HK1.out; have := HJ1.out; omega⟩, drw⟩
     ·replace c4 := Bool.eq_false_iff.mpr c4
      subst c4
      rw [if_neg nft] at H
      obtain rfl := Option.some.inj H
      go_wp2
      go_ret
      exact ⟨eqs, drw⟩
end Go.Proofs.YtcpmoolpbeeedaaGreatDoor.Q
