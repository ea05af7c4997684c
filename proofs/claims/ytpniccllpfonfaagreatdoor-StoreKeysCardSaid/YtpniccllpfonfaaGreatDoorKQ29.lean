-- Texts of this session put together by a program of it (wip/pack.py).
import Derived.Test.YtpniccllpfonfaaGreatDoorKQ0
namespace Go.Proofs.YtpniccllpfonfaaGreatDoor.Q
open Go.RowKit Go.Proofs.YtpniccllpfonfaaGreatDoorW.PrintWords Go.Proofs.YtpniccllpfonfaaGreatDoorW.PrintLast Go.Proofs.YtpniccllpfonfaaGreatDoorW.PrintMore Go.Proofs.YtpniccllpfonfaaGreatDoorW.PrintSq
attribute [local go_sem] max2_int min2_int max_two min_two max_three min_three max_four min_four   -- for this text's walks alone
set_option linter.unusedVariables false
set_option linter.unusedSimpArgs false
/-! ### bulletinref37_Number: function 35 -/
mutual
def bulletinref37_Number.l0 : Nat → ByteArray → Int → Int → Option (Int × Bool)
  | 0, _, _, _ => none
  | k + 1, x0, x4, x5 => if x5 < (x0.size : Int) then (if 0 ≤ x5 then (if (bt x0 x5) ≥ 97 then (bulletinref37_Number.j1 k x0 x4 x5 (wrap64 ((wrap64 (bt x0 x5)) - 48)) (decide ((bt x0 x5) ≤ 102))) else (bulletinref37_Number.j1 k x0 x4 x5 (wrap64 ((wrap64 (bt x0 x5)) - 48)) false)) else (none)) else (if (x0.size : Int) = 16 then (some (x4, true)) else (some (0, false)))
def bulletinref37_Number.j1 : Nat → ByteArray → Int → Int → Int → Bool → Option (Int × Bool)
  | 0, _, _, _, _, _ => none
  | k + 1, x0, x4, x5, x6, x27 => if x27 = true then (if 0 ≤ x5 then (if x5 < (x0.size : Int) then (if (wrap64 ((wrap64 (16 * x4)) + (wrap64 ((wrap64 (bt x0 x5)) - 87)))) > 1099511627776 then (some (0, false)) else (bulletinref37_Number.l0 k x0 (wrap64 ((wrap64 (16 * x4)) + (wrap64 ((wrap64 (bt x0 x5)) - 87)))) (wrap64 (x5 + 1)))) else (none)) else (none)) else (if x6 < 0 then (bulletinref37_Number.j2 k x0 x4 x5 x6 true) else (bulletinref37_Number.j2 k x0 x4 x5 x6 (decide (x6 > 9))))
def bulletinref37_Number.j2 : Nat → ByteArray → Int → Int → Int → Bool → Option (Int × Bool)
  | 0, _, _, _, _, _ => none
  | k + 1, x0, x4, x5, x6, x38 => if x38 = true then (some (0, false)) else (if (wrap64 ((wrap64 (16 * x4)) + x6)) > 1099511627776 then (some (0, false)) else (bulletinref37_Number.l0 k x0 (wrap64 ((wrap64 (16 * x4)) + x6)) (wrap64 (x5 + 1))))
end
def bulletinref37_Number.f (k : Nat) (a0 : ByteArray) : Option (Int × Bool) := bulletinref37_Number.l0 k a0 0 0
theorem bulletinref37_Number.mono_l : ∀ k, (∀ y0 y1 y2, LeO (bulletinref37_Number.l0 k y0 y1 y2) (bulletinref37_Number.l0 (k + 1) y0 y1 y2)) ∧ (∀ y0 y1 y2 y3 y4, LeO (bulletinref37_Number.j1 k y0 y1 y2 y3 y4) (bulletinref37_Number.j1 (k + 1) y0 y1 y2 y3 y4)) ∧ (∀ y0 y1 y2 y3 y4, LeO (bulletinref37_Number.j2 k y0 y1 y2 y3 y4) (bulletinref37_Number.j2 (k + 1) y0 y1 y2 y3 y4))
  | 0 => ⟨fun _ _ _ r h => by simp [bulletinref37_Number.l0] at h, fun _ _ _ _ _ r h => by simp [bulletinref37_Number.j1] at h, fun _ _ _ _ _ r h => by simp [bulletinref37_Number.j2] at h⟩
  | k + 1 => by
    obtain ⟨ih0, ih1, ih2⟩ := bulletinref37_Number.mono_l k
    refine ⟨?_, ?_, ?_⟩
    · intro y0 y1 y2
      unfold bulletinref37_Number.l0
      repeat' first | (with_reducible first | exact ih0 _ _ _ | exact ih1 _ _ _ _ _ | exact ih2 _ _ _ _ _ | exact LeO.refl _ | exact LeO.none _ | refine LeO.ite ?_ ?_ | refine LeO.bind ?_ (fun _ => ?_)) | exact ih0 _ _ _ | exact ih1 _ _ _ _ _ | exact ih2 _ _ _ _ _ | exact LeO.none _ | refine LeO.ite ?_ ?_ | refine LeO.bind ?_ (fun _ => ?_)
    · intro y0 y1 y2 y3 y4
      unfold bulletinref37_Number.j1
      repeat' first | (with_reducible first | exact ih0 _ _ _ | exact ih1 _ _ _ _ _ | exact ih2 _ _ _ _ _ | exact LeO.refl _ | exact LeO.none _ | refine LeO.ite ?_ ?_ | refine LeO.bind ?_ (fun _ => ?_)) | exact ih0 _ _ _ | exact ih1 _ _ _ _ _ | exact ih2 _ _ _ _ _ | exact LeO.none _ | refine LeO.ite ?_ ?_ | refine LeO.bind ?_ (fun _ => ?_)
    · intro y0 y1 y2 y3 y4
      unfold bulletinref37_Number.j2
      repeat' first | (with_reducible first | exact ih0 _ _ _ | exact ih1 _ _ _ _ _ | exact ih2 _ _ _ _ _ | exact LeO.refl _ | exact LeO.none _ | refine LeO.ite ?_ ?_ | refine LeO.bind ?_ (fun _ => ?_)) | exact ih0 _ _ _ | exact ih1 _ _ _ _ _ | exact ih2 _ _ _ _ _ | exact LeO.none _ | refine LeO.ite ?_ ?_ | refine LeO.bind ?_ (fun _ => ?_)
theorem bulletinref37_Number.mono : ∀ a0 k, LeO (bulletinref37_Number.f k a0) (bulletinref37_Number.f (k + 1) a0) := by
  intro a0 k
  obtain ⟨ih0, ih1, ih2⟩ := bulletinref37_Number.mono_l k
  unfold bulletinref37_Number.f
  repeat' first | (with_reducible first | exact ih0 _ _ _ | exact ih1 _ _ _ _ _ | exact ih2 _ _ _ _ _ | exact LeO.refl _ | exact LeO.none _ | refine LeO.ite ?_ ?_ | refine LeO.bind ?_ (fun _ => ?_)) | exact ih0 _ _ _ | exact ih1 _ _ _ _ _ | exact ih2 _ _ _ _ _ | exact LeO.none _ | refine LeO.ite ?_ ?_ | refine LeO.bind ?_ (fun _ => ?_)
set_option maxHeartbeats 8000000 in
set_option maxRecDepth 100000 in
theorem bulletinref37_Number.calls (k : Nat) (a0 : ByteArray) (r1 : Int) (r2 : Bool) (w : World) (h : bulletinref37_Number.f k a0 = some (r1, r2)) :
    Calls Tryz.prog 35 #[.string a0] w fun e w' => e = .returned (.tuple #[.int .i64 r1, .bool r2]) ∧ Drawn0 w w' := by
 unfold bulletinref37_Number.f at h
 have H := h
 clear h
 have H' := Aside0.mk H
 clear H
 go_enter Tryz.func35, Tryz.ntmps35
 go_wp2
 go_loopg [4, 5] k (fun kq v4 v5 w' => ∃ (x4_1 : Int) (x5_1 : Int), v4 = .int .i64 x4_1 ∧ v5 = .int .i64 x5_1 ∧ Aside0 (bulletinref37_Number.l0 kq a0 x4_1 x5_1 = some (r1, r2)) ∧ Aside0 (kq ≤ k) ∧ Drawn0 w w')
 case atStart => exact ⟨(0), (0), eqs, eqs, H', ⟨Nat.le_refl _⟩, drw⟩
 case round =>
  clear H'
  obtain ⟨x4_1, x5_1, rfl, rfl, HA, HK1, ⟨m1, rfl⟩⟩ := hrel
  cases gk with
  | zero => exact absurd HA.out (by simp [bulletinref37_Number.l0])
  | succ k1 =>
   have H := HA.out
   clear HA
   simp only [bulletinref37_Number.l0] at H
   by_cases c2 : x5_1 < (a0.size : Int)
   ·rw [if_pos c2] at H
    have c2b0 := decide_eq_true c2
    clear c2
    obtain ⟨c3, H⟩ := iteS H
    have c3b0 := decide_eq_true c3
    clear c3
    have HC5 := Aside0.mk H
    clear H
    have p4 : 0 ≤ (x5_1 : Int) := od_
    have q4 : x5_1 < (a0.size : Int) := od_
    have hx4 := bt_at a0 x5_1
    replace p4 := eq_true p4
    replace q4 := eq_true q4
    go_upto_region 6 with (fail)
    go_cut [27] (fun v27 wc => ∃ (kq : Nat) (x27_4 : Bool), v27 = .bool x27_4 ∧ Aside0 (bulletinref37_Number.j1 kq a0 x4_1 x5_1 (wrap64 ((wrap64 (bt a0 x5_1)) - 48)) x27_4 = some (r1, r2)) ∧ Aside0 (kq ≤ k1) ∧ Drawn0 w wc)
    case first =>
     have H := HC5.out
     clear HC5
     by_cases c7 : (bt a0 x5_1) ≥ 97
     ·rw [if_pos c7] at H
      have c7b0 : decide (97 ≤ (bt a0 x5_1)) = true := decide_eq_true c7
      clear c7
      (first | rw [c7b0] | (simp only [i64_w, i32_w]; rw [c7b0]) | skip)
      have H' := Aside0.mk H
      clear H
      have p6 : 0 ≤ (x5_1 : Int) := od_
      have q6 : x5_1 < (a0.size : Int) := od_
      have hx6 := bt_at a0 x5_1
      replace p6 := eq_true p6
      replace q6 := eq_true q6
      have p8 : 0 ≤ (x5_1 : Int) := od_
      have q8 : x5_1 < (a0.size : Int) := od_
      have hx8 := bt_at a0 x5_1
      replace p8 := eq_true p8
      replace q8 := eq_true q8
      go_wp2
      go_meet
      case rel => exact ⟨_, (decide ((bt a0 x5_1) ≤ 102)), eqs, H', ⟨by have := HK1.out; first | omega | exact Nat.le_refl _⟩, drw⟩
     ·rw [if_neg c7] at H
      have c7b0 : decide (97 ≤ (bt a0 x5_1)) = false := decide_eq_false c7
      clear c7
      (first | rw [c7b0] | (simp only [i64_w, i32_w]; rw [c7b0]) | skip)
      have H' := Aside0.mk H
      clear H
      have p6 : 0 ≤ (x5_1 : Int) := od_
      have q6 : x5_1 < (a0.size : Int) := od_
      have hx6 := bt_at a0 x5_1
      replace p6 := eq_true p6
      replace q6 := eq_true q6
      go_wp2
      go_meet
      case rel => exact ⟨_, (false), eqs, H', ⟨by have := HK1.out; first | omega | exact Nat.le_refl _⟩, drw⟩
    case rest =>
     clear HC5
     try clear c2
     try clear c2b0
     try clear p2
     try clear c3
     try clear c3b0
     try clear p4
     try clear q4
     try clear hx4
     try clear p6
     try clear q6
     try clear hx6
     try clear c7
     try clear c7b0
     try clear p8
     try clear q8
     try clear hx8
     try clear p4
     try clear p6
     try clear p8
     try clear q4
     try clear q6
     try clear q8
     obtain ⟨kq, x27_4, rfl, HA, HJ4, ⟨mc4, rfl⟩⟩ := hcut
     cases kq with
     | zero => exact absurd HA.out (by simp [bulletinref37_Number.j1])
     | succ kj4 =>
      have H := HA.out
      clear HA
      simp only [bulletinref37_Number.j1] at H
      by_cases c9 : x27_4 = true
      ·subst c9
       rw [if_pos rfl] at H
       obtain ⟨c10, H⟩ := iteS H
       have c10b0 := decide_eq_true c10
       clear c10
       obtain ⟨c11, H⟩ := iteS H
       have c11b0 := decide_eq_true c11
       clear c11
       by_cases c13 : (wrap64 ((wrap64 (16 * x4_1)) + (wrap64 ((wrap64 (bt a0 x5_1)) - 87)))) > 1099511627776
       ·rw [if_pos c13] at H
        have c13b0 : decide (1099511627776 < (wrap64 ((wrap64 (16 * x4_1)) + (wrap64 ((wrap64 (bt a0 x5_1)) - 87))))) = true := decide_eq_true c13
        clear c13
        simp only [Option.some.injEq, Prod.mk.injEq] at H
        obtain ⟨rfl, rfl⟩ := H
        have p12 : 0 ≤ (x5_1 : Int) := od_
        have q12 : x5_1 < (a0.size : Int) := od_
        have hx12 := bt_at a0 x5_1
        replace p12 := eq_true p12
        replace q12 := eq_true q12
        go_wp2
        go_ret2
        exact ⟨eqs, drw⟩
       ·rw [if_neg c13] at H
        have c13b0 : decide (1099511627776 < (wrap64 ((wrap64 (16 * x4_1)) + (wrap64 ((wrap64 (bt a0 x5_1)) - 87))))) = false := decide_eq_false c13
        clear c13
        have H' := Aside0.mk H
        clear H
        have p12 : 0 ≤ (x5_1 : Int) := od_
        have q12 : x5_1 < (a0.size : Int) := od_
        have hx12 := bt_at a0 x5_1
        replace p12 := eq_true p12
        replace q12 := eq_true q12
        go_wp2
        go_roundg kj4
        case measure => have := HK1.out; have := HJ4.out; omega
        case rel => exact ⟨(wrap64 ((wrap64 (16 * x4_1)) + (wrap64 ((wrap64 (bt a0 x5_1)) - 87)))), (wrap64 (x5_1 + 1)), eqs, eqs, H', ⟨by have := HK1.out; have := HJ4.out; omega⟩, drw⟩
      ·replace c9 := Bool.eq_false_iff.mpr c9
       subst c9
       rw [if_neg nft] at H
       have HC14 := Aside0.mk H
       clear H
       go_upto_region 8 with (fail)
       go_cut [38] (fun v38 wc => ∃ (kq : Nat) (x38_13 : Bool), v38 = .bool x38_13 ∧ Aside0 (bulletinref37_Number.j2 kq a0 x4_1 x5_1 (wrap64 ((wrap64 (bt a0 x5_1)) - 48)) x38_13 = some (r1, r2)) ∧ Aside0 (kq ≤ kj4) ∧ Drawn0 w wc)
       case first =>
        have H := HC14.out
        clear HC14
        by_cases c15 : (wrap64 ((wrap64 (bt a0 x5_1)) - 48)) < 0
        ·rw [if_pos c15] at H
         have c15b0 := decide_eq_true c15
         clear c15
         (first | rw [c15b0] | (simp only [i64_w, i32_w]; rw [c15b0]) | skip)
         have H' := Aside0.mk H
         clear H
         go_wp2
         go_meet
         case rel => exact ⟨_, (true), eqs, H', ⟨by have := HK1.out; have := HJ4.out; first | omega | exact Nat.le_refl _⟩, drw⟩
        ·rw [if_neg c15] at H
         have c15b0 := decide_eq_false c15
         clear c15
         (first | rw [c15b0] | (simp only [i64_w, i32_w]; rw [c15b0]) | skip)
         have H' := Aside0.mk H
         clear H
         go_wp2
         go_meet
         case rel => exact ⟨_, (decide ((wrap64 ((wrap64 (bt a0 x5_1)) - 48)) > 9)), eqs, H', ⟨by have := HK1.out; have := HJ4.out; first | omega | exact Nat.le_refl _⟩, drw⟩
       case rest =>
        clear HC14
        try clear c1
        try clear p1
        try clear q1
        try clear hx1
        try clear c2
        try clear c2b0
        try clear p2
        try clear c3
        try clear c3b0
        try clear c4
        try clear p4
        try clear q4
        try clear hx4
        try clear p6
        try clear q6
        try clear hx6
        try clear c7
        try clear c7b0
        try clear p8
        try clear q8
        try clear hx8
        try clear c9
        try clear c10
        try clear c10b0
        try clear c11
        try clear c11b0
        try clear p12
        try clear q12
        try clear hx12
        try clear c13
        try clear c13b0
        try clear c15
        try clear c15b0
        try clear p12
        try clear p2
        try clear p4
        try clear p6
        try clear p8
        try clear q12
        try clear q4
        try clear q6
        try clear q8
        obtain ⟨kq, x38_13, rfl, HA, HJ13, ⟨mc13, rfl⟩⟩ := hcut
        cases kq with
        | zero => exact absurd HA.out (by simp [bulletinref37_Number.j2])
        | succ kj13 =>
         have H := HA.out
         clear HA
         simp only [bulletinref37_Number.j2] at H
         by_cases c16 : x38_13 = true
         ·subst c16
          rw [if_pos rfl] at H
          simp only [Option.some.injEq, Prod.mk.injEq] at H
          obtain ⟨rfl, rfl⟩ := H
          go_wp2
          go_ret2
          exact ⟨eqs, drw⟩
         ·replace c16 := Bool.eq_false_iff.mpr c16
          subst c16
          rw [if_neg nft] at H
          by_cases c17 : (wrap64 ((wrap64 (16 * x4_1)) + (wrap64 ((wrap64 (bt a0 x5_1)) - 48)))) > 1099511627776
          ·rw [if_pos c17] at H
           have c17b0 : decide (1099511627776 < (wrap64 ((wrap64 (16 * x4_1)) + (wrap64 ((wrap64 (bt a0 x5_1)) - 48))))) = true := decide_eq_true c17
           clear c17
           simp only [Option.some.injEq, Prod.mk.injEq] at H
           obtain ⟨rfl, rfl⟩ := H
           go_wp2
           go_ret2
           exact ⟨eqs, drw⟩
          ·rw [if_neg c17] at H
           have c17b0 : decide (1099511627776 < (wrap64 ((wrap64 (16 * x4_1)) + (wrap64 ((wrap64 (bt a0 x5_1)) - 48))))) = false := decide_eq_false c17
           clear c17
           have H' := Aside0.mk H
           clear H
           go_wp2
           go_roundg kj13
           case measure => have := HK1.out; have := HJ4.out; have := HJ13.out; omega
           case rel => exact ⟨(wrap64 ((wrap64 (16 * x4_1)) + (wrap64 ((wrap64 (bt a0 x5_1)) - 48)))), (wrap64 (x5_1 + 1)), eqs, eqs, H', ⟨by have := HK1.out; have := HJ4.out; have := HJ13.out; omega⟩, drw⟩
   ·rw [if_neg c2] at H
    have c2b0 := decide_eq_false c2
    clear c2
    by_cases c18 : (a0.size : Int) = 16
    ·rw [if_pos c18] at H
     have c18b0 := beq_iff_eq.mpr c18
     have c18b1 := bne_eq_false_iff_eq.mpr c18
     clear c18
     simp only [Option.some.injEq, Prod.mk.injEq] at H
     obtain ⟨rfl, rfl⟩ := H
     go_wp2
     go_ret2
     exact ⟨eqs, drw⟩
    ·rw [if_neg c18] at H
     have c18b0 := beq_eq_false_iff_ne.mpr c18
     have c18b1 := bne_iff_ne.mpr c18
     simp only [Option.some.injEq, Prod.mk.injEq] at H
     obtain ⟨rfl, rfl⟩ := H
     go_wp2
     go_ret2
     exact ⟨eqs, drw⟩
-- NOT PRINTED: function 7 (bulletinlaw37_StoreKeys)
-- NOT PRINTED: function 8 (bulletinlaw37_StoreOrder)
end Go.Proofs.YtpniccllpfonfaaGreatDoor.Q
