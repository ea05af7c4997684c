-- Written by a program of this session (wip/myprint) out of the translation, for YtcpmoolpbeeedaaGreatDoor.
import Derived.Test.YtcpmoolpbeeedaaGreatDoorQ0
namespace Go.Proofs.YtcpmoolpbeeedaaGreatDoor.Q
open Go.RowKit Go.Proofs.YtcpmoolpbeeedaaGreatDoorW.PrintWords Go.Proofs.YtcpmoolpbeeedaaGreatDoorW.PrintLast Go.Proofs.YtcpmoolpbeeedaaGreatDoorW.PrintMore Go.Proofs.YtcpmoolpbeeedaaGreatDoorW.PrintSq
attribute [local go_sem] max2_int min2_int max_two min_two max_three min_three max_four min_four   -- for this text's walks alone
set_option linter.unusedVariables false
set_option linter.unusedSimpArgs false

/-! ### bulletinref13_label: function 122 -/
mutual
def bulletinref13_label.l0 : Nat → ByteArray → Int → Option (Bool)
  | 0, _, _ => none
  | k + 1, x0, x3 => if x3 < (x0.size : Int) then (if 0 ≤ x3 then (if (bt x0 x3) ≥ 65 then (bulletinref13_label.j1 k x0 x3 (bt x0 x3) (decide ((bt x0 x3) ≤ 90))) else (bulletinref13_label.j1 k x0 x3 (bt x0 x3) false)) else (none)) else (some (x0.toList != ([] : List UInt8)))
def bulletinref13_label.j1 : Nat → ByteArray → Int → Int → Bool → Option (Bool)
  | 0, _, _, _, _ => none
  | k + 1, x0, x3, x4, x20 => if x20 = true then (if x3 = 0 then (if ((x4 + 32) % 256) ≥ 97 then (if ((x4 + 32) % 256) ≤ 122 then (bulletinref13_label.l0 k x0 (wrap64 (x3 + 1))) else (if ((x4 + 32) % 256) ≥ 48 then (if ((x4 + 32) % 256) ≤ 57 then (bulletinref13_label.l0 k x0 (wrap64 (x3 + 1))) else (if ((x4 + 32) % 256) = 45 then (some false) else (some false))) else (if ((x4 + 32) % 256) = 45 then (some false) else (some false)))) else (if ((x4 + 32) % 256) ≥ 48 then (if ((x4 + 32) % 256) ≤ 57 then (bulletinref13_label.l0 k x0 (wrap64 (x3 + 1))) else (if ((x4 + 32) % 256) = 45 then (some false) else (some false))) else (if ((x4 + 32) % 256) = 45 then (some false) else (some false)))) else (if ((x4 + 32) % 256) ≥ 97 then (if ((x4 + 32) % 256) ≤ 122 then (bulletinref13_label.l0 k x0 (wrap64 (x3 + 1))) else (if ((x4 + 32) % 256) ≥ 48 then (if ((x4 + 32) % 256) ≤ 57 then (bulletinref13_label.l0 k x0 (wrap64 (x3 + 1))) else (if ((x4 + 32) % 256) = 45 then (if x3 = (wrap64 ((x0.size : Int) - 1)) then (some false) else (bulletinref13_label.l0 k x0 (wrap64 (x3 + 1)))) else (some false))) else (if ((x4 + 32) % 256) = 45 then (if x3 = (wrap64 ((x0.size : Int) - 1)) then (some false) else (bulletinref13_label.l0 k x0 (wrap64 (x3 + 1)))) else (some false)))) else (if ((x4 + 32) % 256) ≥ 48 then (if ((x4 + 32) % 256) ≤ 57 then (bulletinref13_label.l0 k x0 (wrap64 (x3 + 1))) else (if ((x4 + 32) % 256) = 45 then (if x3 = (wrap64 ((x0.size : Int) - 1)) then (some false) else (bulletinref13_label.l0 k x0 (wrap64 (x3 + 1)))) else (some false))) else (if ((x4 + 32) % 256) = 45 then (if x3 = (wrap64 ((x0.size : Int) - 1)) then (some false) else (bulletinref13_label.l0 k x0 (wrap64 (x3 + 1)))) else (some false))))) else (if x3 = 0 then (if x4 ≥ 97 then (if x4 ≤ 122 then (bulletinref13_label.l0 k x0 (wrap64 (x3 + 1))) else (if x4 ≥ 48 then (if x4 ≤ 57 then (bulletinref13_label.l0 k x0 (wrap64 (x3 + 1))) else (if x4 = 45 then (some false) else (some false))) else (if x4 = 45 then (some false) else (some false)))) else (if x4 ≥ 48 then (if x4 ≤ 57 then (bulletinref13_label.l0 k x0 (wrap64 (x3 + 1))) else (if x4 = 45 then (some false) else (some false))) else (if x4 = 45 then (some false) else (some false)))) else (if x4 ≥ 97 then (if x4 ≤ 122 then (bulletinref13_label.l0 k x0 (wrap64 (x3 + 1))) else (if x4 ≥ 48 then (if x4 ≤ 57 then (bulletinref13_label.l0 k x0 (wrap64 (x3 + 1))) else (if x4 = 45 then (if x3 = (wrap64 ((x0.size : Int) - 1)) then (some false) else (bulletinref13_label.l0 k x0 (wrap64 (x3 + 1)))) else (some false))) else (if x4 = 45 then (if x3 = (wrap64 ((x0.size : Int) - 1)) then (some false) else (bulletinref13_label.l0 k x0 (wrap64 (x3 + 1)))) else (some false)))) else (if x4 ≥ 48 then (if x4 ≤ 57 then (bulletinref13_label.l0 k x0 (wrap64 (x3 + 1))) else (if x4 = 45 then (if x3 = (wrap64 ((x0.size : Int) - 1)) then (some false) else (bulletinref13_label.l0 k x0 (wrap64 (x3 + 1)))) else (some false))) else (if x4 = 45 then (if x3 = (wrap64 ((x0.size : Int) - 1)) then (some false) else (bulletinref13_label.l0 k x0 (wrap64 (x3 + 1)))) else (some false)))))
end
def bulletinref13_label.f (k : Nat) (a0 : ByteArray) : Option (Bool) := bulletinref13_label.l0 k a0 0
theorem bulletinref13_label.mono_l : ∀ k, (∀ y0 y1, LeO (bulletinref13_label.l0 k y0 y1) (bulletinref13_label.l0 (k + 1) y0 y1)) ∧ (∀ y0 y1 y2 y3, LeO (bulletinref13_label.j1 k y0 y1 y2 y3) (bulletinref13_label.j1 (k + 1) y0 y1 y2 y3))
  | 0 => ⟨fun _ _ r h => by simp [bulletinref13_label.l0] at h, fun _ _ _ _ r h => by simp [bulletinref13_label.j1] at h⟩
  | k + 1 => by
    obtain ⟨ih0, ih1⟩ := bulletinref13_label.mono_l k
    refine ⟨?_, ?_⟩
    · intro y0 y1
      unfold bulletinref13_label.l0
      repeat' first | (with_reducible first | exact ih0 _ _ | exact ih1 _ _ _ _ | exact LeO.refl _ | exact LeO.none _ | refine LeO.ite ?_ ?_ | refine LeO.bind ?_ (fun _ => ?_)) | exact ih0 _ _ | exact ih1 _ _ _ _ | exact LeO.none _ | refine LeO.ite ?_ ?_ | refine LeO.bind ?_ (fun _ => ?_)
    · intro y0 y1 y2 y3
      unfold bulletinref13_label.j1
      repeat' first | (with_reducible first | exact ih0 _ _ | exact ih1 _ _ _ _ | exact LeO.refl _ | exact LeO.none _ | refine LeO.ite ?_ ?_ | refine LeO.bind ?_ (fun _ => ?_)) | exact ih0 _ _ | exact ih1 _ _ _ _ | exact LeO.none _ | refine LeO.ite ?_ ?_ | refine LeO.bind ?_ (fun _ => ?_)
theorem bulletinref13_label.mono : ∀ a0 k, LeO (bulletinref13_label.f k a0) (bulletinref13_label.f (k + 1) a0) := by
  intro a0 k
  obtain ⟨ih0, ih1⟩ := bulletinref13_label.mono_l k
  unfold bulletinref13_label.f
  repeat' first | (with_reducible first | exact ih0 _ _ | exact ih1 _ _ _ _ | exact LeO.refl _ | exact LeO.none _ | refine LeO.ite ?_ ?_ | refine LeO.bind ?_ (fun _ => ?_)) | exact ih0 _ _ | exact ih1 _ _ _ _ | exact LeO.none _ | refine LeO.ite ?_ ?_ | refine LeO.bind ?_ (fun _ => ?_)
set_option maxHeartbeats 8000000 in
set_option maxRecDepth 100000 in
theorem bulletinref13_label.calls (k : Nat) (a0 : ByteArray) (r : Bool) (w : World) (h : bulletinref13_label.f k a0 = some r) :
    Calls Tryz.prog 122 #[.string a0] w fun e w' => e = .returned (.bool r) ∧ Drawn0 w w' := by
 unfold bulletinref13_label.f at h
 have H := h
 clear h
 have H' := Aside0.mk H
 clear H
 go_enter Tryz.func122, Tryz.ntmps122
 go_wp2
 go_loopg [3] k (fun kq v3 w' => ∃ (x3_1 : Int), v3 = .int .i64 x3_1 ∧ Aside0 (bulletinref13_label.l0 kq a0 x3_1 = some r) ∧ Aside0 (kq ≤ k) ∧ Drawn0 w w')
 case atStart => exact ⟨(0), (by first | rfl | (simp; done) | (simp [*]; done) | (simp; exact (by intro l_; cases l_ <;> rfl : ∀ l_ : List UInt8, l_.isEmpty = !(l_ != [])) _)), H', ⟨Nat.le_refl _⟩, drw⟩
 case round =>
  clear H'
  try clear c1
  obtain ⟨x3_1, rfl, HA, HK1, ⟨m1, rfl⟩⟩ := hrel
  cases gk with
  | zero => exact absurd HA.out (by simp [bulletinref13_label.l0])
  | succ k1 =>
   have H := HA.out
   clear HA
   simp only [bulletinref13_label.l0] at H
   by_cases c2 : x3_1 < (a0.size : Int)
   ·rw [if_pos c2] at H
    have c2b0 := decide_eq_true c2
    clear c2
    obtain ⟨c3, H⟩ := iteS H
    have c3b0 := decide_eq_true c3
    clear c3
    have HC5 := Aside0.mk H
    clear H
    have p4 : 0 ≤ (x3_1 : Int) := od_
    have q4 : x3_1 < (a0.size : Int) := od_
    have hx4 := bt_at a0 x3_1
    replace p4 := eq_true p4
    replace q4 := eq_true q4
    go_upto_region 5 with (fail)
    go_cut [20] (fun v20 wc => ∃ (kq : Nat) (x20_4 : Bool), v20 = .bool x20_4 ∧ Aside0 (bulletinref13_label.j1 kq a0 x3_1 (bt a0 x3_1) x20_4 = some r) ∧ Aside0 (kq ≤ k1) ∧ Drawn0 w wc)
    case first =>
     have H := HC5.out
     clear HC5
     by_cases c6 : (bt a0 x3_1) ≥ 65
     ·rw [if_pos c6] at H
      have c6b0 : decide (65 ≤ (bt a0 x3_1)) = true := decide_eq_true c6
      clear c6
      (first | rw [c6b0] | (simp only [i64_w, i32_w]; rw [c6b0]) | skip)
      have H' := Aside0.mk H
      clear H
      go_wp2
      go_meet
      case rel => exact ⟨_, (decide ((bt a0 x3_1) ≤ 90)), (by first | rfl | (simp; done) | (simp [*]; done) | (simp; exact (by intro l_; cases l_ <;> rfl : ∀ l_ : List UInt8, l_.isEmpty = !(l_ != [])) _)), H', ⟨by have := HK1.out; first | omega | exact Nat.le_refl _⟩, drw⟩
     ·rw [if_neg c6] at H
      have c6b0 : decide (65 ≤ (bt a0 x3_1)) = false := decide_eq_false c6
      clear c6
      (first | rw [c6b0] | (simp only [i64_w, i32_w]; rw [c6b0]) | skip)
      have H' := Aside0.mk H
      clear H
      go_wp2
      go_meet
      case rel => exact ⟨_, (false), (by first | rfl | (simp; done) | (simp [*]; done) | (simp; exact (by intro l_; cases l_ <;> rfl : ∀ l_ : List UInt8, l_.isEmpty = !(l_ != [])) _)), H', ⟨by have := HK1.out; first | omega | exact Nat.le_refl _⟩, drw⟩
    case rest =>
     clear HC5
     try clear c1
     try clear c2
     try clear c2b0
     try clear p2
     try clear c3
     try clear c3b0
     try clear p4
     try clear q4
     try clear hx4
     try clear c6
     try clear c6b0
     try clear p4
     try clear q4
     obtain ⟨kq, x20_4, rfl, HA, HJ4, ⟨mc4, rfl⟩⟩ := hcut
     cases kq with
     | zero => exact absurd HA.out (by simp [bulletinref13_label.j1])
     | succ kj4 =>
      have H := HA.out
      clear HA
      simp only [bulletinref13_label.j1] at H
      by_cases c7 : x20_4 = true
      ·subst c7
       rw [if_pos rfl] at H
       by_cases c8 : x3_1 = 0
       ·rw [if_pos c8] at H
        have c8b0 := beq_iff_eq.mpr c8
        have c8b1 := bne_eq_false_iff_eq.mpr c8
        clear c8
        by_cases c9 : (((bt a0 x3_1) + 32) % 256) ≥ 97
        ·rw [if_pos c9] at H
         have c9b0 : decide (97 ≤ (((bt a0 x3_1) + 32) % 256)) = true := decide_eq_true c9
         clear c9
         by_cases c10 : (((bt a0 x3_1) + 32) % 256) ≤ 122
         ·rw [if_pos c10] at H
          have c10b0 := decide_eq_true c10
          clear c10
          have H' := Aside0.mk H
          clear H
          go_wp2
          go_roundg kj4
          case measure => have := HK1.out; have := HJ4.out; omega
          case rel => exact ⟨(wrap64 (x3_1 + 1)), (by first | rfl | (simp; done) | (simp [*]; done) | (simp; exact (by intro l_; cases l_ <;> rfl : ∀ l_ : List UInt8, l_.isEmpty = !(l_ != [])) _)), H', ⟨by have := HK1.out; have := HJ4.out; omega⟩, drw⟩
         ·rw [if_neg c10] at H
          have c10b0 := decide_eq_false c10
          clear c10
          by_cases c11 : (((bt a0 x3_1) + 32) % 256) ≥ 48
          ·rw [if_pos c11] at H
           have c11b0 : decide (48 ≤ (((bt a0 x3_1) + 32) % 256)) = true := decide_eq_true c11
           clear c11
           by_cases c12 : (((bt a0 x3_1) + 32) % 256) ≤ 57
           ·rw [if_pos c12] at H
            have c12b0 := decide_eq_true c12
            clear c12
            have H' := Aside0.mk H
            clear H
            go_wp2
            go_roundg kj4
            case measure => have := HK1.out; have := HJ4.out; omega
            case rel => exact ⟨(wrap64 (x3_1 + 1)), (by first | rfl | (simp; done) | (simp [*]; done) | (simp; exact (by intro l_; cases l_ <;> rfl : ∀ l_ : List UInt8, l_.isEmpty = !(l_ != [])) _)), H', ⟨by have := HK1.out; have := HJ4.out; omega⟩, drw⟩
           ·rw [if_neg c12] at H
            have c12b0 := decide_eq_false c12
            clear c12
            by_cases c13 : (((bt a0 x3_1) + 32) % 256) = 45
            ·rw [if_pos c13] at H
             have c13b0 := beq_iff_eq.mpr c13
             have c13b1 := bne_eq_false_iff_eq.mpr c13
             clear c13
             obtain rfl := Option.some.inj H
             go_wp2
             go_ret
             exact ⟨by first | rfl | (simp; done) | (simp [*]; done) | (simp; exact (by intro l_; cases l_ <;> rfl : ∀ l_ : List UInt8, l_.isEmpty = !(l_ != [])) _), drw⟩
            ·rw [if_neg c13] at H
             have c13b0 := beq_eq_false_iff_ne.mpr c13
             have c13b1 := bne_iff_ne.mpr c13
             obtain rfl := Option.some.inj H
             go_wp2
             go_ret
             exact ⟨by first | rfl | (simp; done) | (simp [*]; done) | (simp; exact (by intro l_; cases l_ <;> rfl : ∀ l_ : List UInt8, l_.isEmpty = !(l_ != [])) _), drw⟩
          ·rw [if_neg c11] at H
           have c11b0 : decide (48 ≤ (((bt a0 x3_1) + 32) % 256)) = false := decide_eq_false c11
           clear c11
           by_cases c14 : (((bt a0 x3_1) + 32) % 256) = 45
           ·rw [if_pos c14] at H
            have c14b0 := beq_iff_eq.mpr c14
            have c14b1 := bne_eq_false_iff_eq.mpr c14
            clear c14
            obtain rfl := Option.some.inj H
            go_wp2
            go_ret
            exact ⟨by first | rfl | (simp; done) | (simp [*]; done) | (simp; exact (by intro l_; cases l_ <;> rfl : ∀ l_ : List UInt8, l_.isEmpty = !(l_ != [])) _), drw⟩
           ·rw [if_neg c14] at H
            have c14b0 := beq_eq_false_iff_ne.mpr c14
            have c14b1 := bne_iff_ne.mpr c14
            obtain rfl := Option.some.inj H
            go_wp2
            go_ret
            exact ⟨by first | rfl | (simp; done) | (simp [*]; done) | (simp; exact (by intro l_; cases l_ <;> rfl : ∀ l_ : List UInt8, l_.isEmpty = !(l_ != [])) _), drw⟩
        ·rw [if_neg c9] at H
         have c9b0 : decide (97 ≤ (((bt a0 x3_1) + 32) % 256)) = false := decide_eq_false c9
         clear c9
         by_cases c15 : (((bt a0 x3_1) + 32) % 256) ≥ 48
         ·rw [if_pos c15] at H
          have c15b0 : decide (48 ≤ (((bt a0 x3_1) + 32) % 256)) = true := decide_eq_true c15
          clear c15
          by_cases c16 : (((bt a0 x3_1) + 32) % 256) ≤ 57
          ·rw [if_pos c16] at H
           have c16b0 := decide_eq_true c16
           clear c16
           have H' := Aside0.mk H
           clear H
           go_wp2
           go_roundg kj4
           case measure => have := HK1.out; have := HJ4.out; omega
           case rel => exact ⟨(wrap64 (x3_1 + 1)), (by first | rfl | (simp; done) | (simp [*]; done) | (simp; exact (by intro l_; cases l_ <;> rfl : ∀ l_ : List UInt8, l_.isEmpty = !(l_ != [])) _)), H', ⟨by have := HK1.out; have := HJ4.out; omega⟩, drw⟩
          ·rw [if_neg c16] at H
           have c16b0 := decide_eq_false c16
           clear c16
           by_cases c17 : (((bt a0 x3_1) + 32) % 256) = 45
           ·rw [if_pos c17] at H
            have c17b0 := beq_iff_eq.mpr c17
            have c17b1 := bne_eq_false_iff_eq.mpr c17
            clear c17
            obtain rfl := Option.some.inj H
            go_wp2
            go_ret
            exact ⟨by first | rfl | (simp; done) | (simp [*]; done) | (simp; exact (by intro l_; cases l_ <;> rfl : ∀ l_ : List UInt8, l_.isEmpty = !(l_ != [])) _), drw⟩
           ·rw [if_neg c17] at H
            have c17b0 := beq_eq_false_iff_ne.mpr c17
            have c17b1 := bne_iff_ne.mpr c17
            obtain rfl := Option.some.inj H
            go_wp2
            go_ret
            exact ⟨by first | rfl | (simp; done) | (simp [*]; done) | (simp; exact (by intro l_; cases l_ <;> rfl : ∀ l_ : List UInt8, l_.isEmpty = !(l_ != [])) _), drw⟩
         ·rw [if_neg c15] at H
          have c15b0 : decide (48 ≤ (((bt a0 x3_1) + 32) % 256)) = false := decide_eq_false c15
          clear c15
          by_cases c18 : (((bt a0 x3_1) + 32) % 256) = 45
          ·rw [if_pos c18] at H
           have c18b0 := beq_iff_eq.mpr c18
           have c18b1 := bne_eq_false_iff_eq.mpr c18
           clear c18
           obtain rfl := Option.some.inj H
           go_wp2
           go_ret
           exact ⟨by first | rfl | (simp; done) | (simp [*]; done) | (simp; exact (by intro l_; cases l_ <;> rfl : ∀ l_ : List UInt8, l_.isEmpty = !(l_ != [])) _), drw⟩
          ·rw [if_neg c18] at H
           have c18b0 := beq_eq_false_iff_ne.mpr c18
           have c18b1 := bne_iff_ne.mpr c18
           obtain rfl := Option.some.inj H
           go_wp2
           go_ret
           exact ⟨by first | rfl | (simp; done) | (simp [*]; done) | (simp; exact (by intro l_; cases l_ <;> rfl : ∀ l_ : List UInt8, l_.isEmpty = !(l_ != [])) _), drw⟩
       ·rw [if_neg c8] at H
        have c8b0 := beq_eq_false_iff_ne.mpr c8
        have c8b1 := bne_iff_ne.mpr c8
        by_cases c19 : (((bt a0 x3_1) + 32) % 256) ≥ 97
        ·rw [if_pos c19] at H
         have c19b0 : decide (97 ≤ (((bt a0 x3_1) + 32) % 256)) = true := decide_eq_true c19
         clear c19
         by_cases c20 : (((bt a0 x3_1) + 32) % 256) ≤ 122
         ·rw [if_pos c20] at H
          have c20b0 := decide_eq_true c20
          clear c20
          have H' := Aside0.mk H
          clear H
          go_wp2
          go_roundg kj4
          case measure => have := HK1.out; have := HJ4.out; omega
          case rel => exact ⟨(wrap64 (x3_1 + 1)), (by first | rfl | (simp; done) | (simp [*]; done) | (simp; exact (by intro l_; cases l_ <;> rfl : ∀ l_ : List UInt8, l_.isEmpty = !(l_ != [])) _)), H', ⟨by have := HK1.out; have := HJ4.out; omega⟩, drw⟩
         ·rw [if_neg c20] at H
          have c20b0 := decide_eq_false c20
          clear c20
          by_cases c21 : (((bt a0 x3_1) + 32) % 256) ≥ 48
          ·rw [if_pos c21] at H
           have c21b0 : decide (48 ≤ (((bt a0 x3_1) + 32) % 256)) = true := decide_eq_true c21
           clear c21
           by_cases c22 : (((bt a0 x3_1) + 32) % 256) ≤ 57
           ·rw [if_pos c22] at H
            have c22b0 := decide_eq_true c22
            clear c22
            have H' := Aside0.mk H
            clear H
            go_wp2
            go_roundg kj4
            case measure => have := HK1.out; have := HJ4.out; omega
            case rel => exact ⟨(wrap64 (x3_1 + 1)), (by first | rfl | (simp; done) | (simp [*]; done) | (simp; exact (by intro l_; cases l_ <;> rfl : ∀ l_ : List UInt8, l_.isEmpty = !(l_ != [])) _)), H', ⟨by have := HK1.out; have := HJ4.out; omega⟩, drw⟩
           ·rw [if_neg c22] at H
            have c22b0 := decide_eq_false c22
            clear c22
            by_cases c23 : (((bt a0 x3_1) + 32) % 256) = 45
            ·rw [if_pos c23] at H
             have c23b0 := beq_iff_eq.mpr c23
             have c23b1 := bne_eq_false_iff_eq.mpr c23
             clear c23
             by_cases c24 : x3_1 = (wrap64 ((a0.size : Int) - 1))
             ·rw [if_pos c24] at H
              have c24b0 := beq_iff_eq.mpr c24
              have c24b1 := bne_eq_false_iff_eq.mpr c24
              clear c24
              obtain rfl := Option.some.inj H
              go_wp2
              go_ret
              exact ⟨by first | rfl | (simp; done) | (simp [*]; done) | (simp; exact (by intro l_; cases l_ <;> rfl : ∀ l_ : List UInt8, l_.isEmpty = !(l_ != [])) _), drw⟩
             ·rw [if_neg c24] at H
              have c24b0 := beq_eq_false_iff_ne.mpr c24
              have c24b1 := bne_iff_ne.mpr c24
              have H' := Aside0.mk H
              clear H
              go_wp2
              go_roundg kj4
              case measure => have := HK1.out; have := HJ4.out; omega
              case rel => exact ⟨(wrap64 (x3_1 + 1)), (by first | rfl | (simp; done) | (simp [*]; done) | (simp; exact (by intro l_; cases l_ <;> rfl : ∀ l_ : List UInt8, l_.isEmpty = !(l_ != [])) _)), H', ⟨by have := HK1.out; have := HJ4.out; omega⟩, drw⟩
            ·rw [if_neg c23] at H
             have c23b0 := beq_eq_false_iff_ne.mpr c23
             have c23b1 := bne_iff_ne.mpr c23
             obtain rfl := Option.some.inj H
             go_wp2
             go_ret
             exact ⟨by first | rfl | (simp; done) | (simp [*]; done) | (simp; exact (by intro l_; cases l_ <;> rfl : ∀ l_ : List UInt8, l_.isEmpty = !(l_ != [])) _), drw⟩
          ·rw [if_neg c21] at H
           have c21b0 : decide (48 ≤ (((bt a0 x3_1) + 32) % 256)) = false := decide_eq_false c21
           clear c21
           by_cases c25 : (((bt a0 x3_1) + 32) % 256) = 45
           ·rw [if_pos c25] at H
            have c25b0 := beq_iff_eq.mpr c25
            have c25b1 := bne_eq_false_iff_eq.mpr c25
            clear c25
            by_cases c26 : x3_1 = (wrap64 ((a0.size : Int) - 1))
            ·rw [if_pos c26] at H
             have c26b0 := beq_iff_eq.mpr c26
             have c26b1 := bne_eq_false_iff_eq.mpr c26
             clear c26
             obtain rfl := Option.some.inj H
             go_wp2
             go_ret
             exact ⟨by first | rfl | (simp; done) | (simp [*]; done) | (simp; exact (by intro l_; cases l_ <;> rfl : ∀ l_ : List UInt8, l_.isEmpty = !(l_ != [])) _), drw⟩
            ·rw [if_neg c26] at H
             have c26b0 := beq_eq_false_iff_ne.mpr c26
             have c26b1 := bne_iff_ne.mpr c26
             have H' := Aside0.mk H
             clear H
             go_wp2
             go_roundg kj4
             case measure => have := HK1.out; have := HJ4.out; omega
             case rel => exact ⟨(wrap64 (x3_1 + 1)), (by first | rfl | (simp; done) | (simp [*]; done) | (simp; exact (by intro l_; cases l_ <;> rfl : ∀ l_ : List UInt8, l_.isEmpty = !(l_ != [])) _)), H', ⟨by have := HK1.out; have := HJ4.out; omega⟩, drw⟩
           ·rw [if_neg c25] at H
            have c25b0 := beq_eq_false_iff_ne.mpr c25
            have c25b1 := bne_iff_ne.mpr c25
            obtain rfl := Option.some.inj H
            go_wp2
            go_ret
            exact ⟨by first | rfl | (simp; done) | (simp [*]; done) | (simp; exact (by intro l_; cases l_ <;> rfl : ∀ l_ : List UInt8, l_.isEmpty = !(l_ != [])) _), drw⟩
        ·rw [if_neg c19] at H
         have c19b0 : decide (97 ≤ (((bt a0 x3_1) + 32) % 256)) = false := decide_eq_false c19
         clear c19
         by_cases c27 : (((bt a0 x3_1) + 32) % 256) ≥ 48
         ·rw [if_pos c27] at H
          have c27b0 : decide (48 ≤ (((bt a0 x3_1) + 32) % 256)) = true := decide_eq_true c27
          clear c27
          by_cases c28 : (((bt a0 x3_1) + 32) % 256) ≤ 57
          ·rw [if_pos c28] at H
           have c28b0 := decide_eq_true c28
           clear c28
           have H' := Aside0.mk H
           clear H
           go_wp2
           go_roundg kj4
           case measure => have := HK1.out; have := HJ4.out; omega
           case rel => exact ⟨(wrap64 (x3_1 + 1)), (by first | rfl | (simp; done) | (simp [*]; done) | (simp; exact (by intro l_; cases l_ <;> rfl : ∀ l_ : List UInt8, l_.isEmpty = !(l_ != [])) _)), H', ⟨by have := HK1.out; have := HJ4.out; omega⟩, drw⟩
          ·rw [if_neg c28] at H
           have c28b0 := decide_eq_false c28
           clear c28
           by_cases c29 : (((bt a0 x3_1) + 32) % 256) = 45
           ·rw [if_pos c29] at H
            have c29b0 := beq_iff_eq.mpr c29
            have c29b1 := bne_eq_false_iff_eq.mpr c29
            clear c29
            by_cases c30 : x3_1 = (wrap64 ((a0.size : Int) - 1))
            ·rw [if_pos c30] at H
             have c30b0 := beq_iff_eq.mpr c30
             have c30b1 := bne_eq_false_iff_eq.mpr c30
             clear c30
             obtain rfl := Option.some.inj H
             go_wp2
             go_ret
             exact ⟨by first | rfl | (simp; done) | (simp [*]; done) | (simp; exact (by intro l_; cases l_ <;> rfl : ∀ l_ : List UInt8, l_.isEmpty = !(l_ != [])) _), drw⟩
            ·rw [if_neg c30] at H
             have c30b0 := beq_eq_false_iff_ne.mpr c30
             have c30b1 := bne_iff_ne.mpr c30
             have H' := Aside0.mk H
             clear H
             go_wp2
             go_roundg kj4
             case measure => have := HK1.out; have := HJ4.out; omega
             case rel => exact ⟨(wrap64 (x3_1 + 1)), (by first | rfl | (simp; done) | (simp [*]; done) | (simp; exact (by intro l_; cases l_ <;> rfl : ∀ l_ : List UInt8, l_.isEmpty = !(l_ != [])) _)), H', ⟨by have := HK1.out; have := HJ4.out; omega⟩, drw⟩
           ·rw [if_neg c29] at H
            have c29b0 := beq_eq_false_iff_ne.mpr c29
            have c29b1 := bne_iff_ne.mpr c29
            obtain rfl := Option.some.inj H
            go_wp2
            go_ret
            exact ⟨by first | rfl | (simp; done) | (simp [*]; done) | (simp; exact (by intro l_; cases l_ <;> rfl : ∀ l_ : List UInt8, l_.isEmpty = !(l_ != [])) _), drw⟩
         ·rw [if_neg c27] at H
          have c27b0 : decide (48 ≤ (((bt a0 x3_1) + 32) % 256)) = false := decide_eq_false c27
          clear c27
          by_cases c31 : (((bt a0 x3_1) + 32) % 256) = 45
          ·rw [if_pos c31] at H
           have c31b0 := beq_iff_eq.mpr c31
           have c31b1 := bne_eq_false_iff_eq.mpr c31
           clear c31
           by_cases c32 : x3_1 = (wrap64 ((a0.size : Int) - 1))
           ·rw [if_pos c32] at H
            have c32b0 := beq_iff_eq.mpr c32
            have c32b1 := bne_eq_false_iff_eq.mpr c32
            clear c32
            obtain rfl := Option.some.inj H
            go_wp2
            go_ret
            exact ⟨by first | rfl | (simp; done) | (simp [*]; done) | (simp; exact (by intro l_; cases l_ <;> rfl : ∀ l_ : List UInt8, l_.isEmpty = !(l_ != [])) _), drw⟩
           ·rw [if_neg c32] at H
            have c32b0 := beq_eq_false_iff_ne.mpr c32
            have c32b1 := bne_iff_ne.mpr c32
            have H' := Aside0.mk H
            clear H
            go_wp2
            go_roundg kj4
            case measure => have := HK1.out; have := HJ4.out; omega
            case rel => exact ⟨(wrap64 (x3_1 + 1)), (by first | rfl | (simp; done) | (simp [*]; done) | (simp; exact (by intro l_; cases l_ <;> rfl : ∀ l_ : List UInt8, l_.isEmpty = !(l_ != [])) _)), H', ⟨by have := HK1.out; have := HJ4.out; omega⟩, drw⟩
          ·rw [if_neg c31] at H
           have c31b0 := beq_eq_false_iff_ne.mpr c31
           have c31b1 := bne_iff_ne.mpr c31
           obtain rfl := Option.some.inj H
           go_wp2
           go_ret
           exact ⟨by first | rfl | (simp; done) | (simp [*]; done) | (simp; exact (by intro l_; cases l_ <;> rfl : ∀ l_ : List UInt8, l_.isEmpty = !(l_ != [])) _), drw⟩
      ·replace c7 := Bool.eq_false_iff.mpr c7
       subst c7
       rw [if_neg nft] at H
       by_cases c33 : x3_1 = 0
       ·rw [if_pos c33] at H
        have c33b0 := beq_iff_eq.mpr c33
        have c33b1 := bne_eq_false_iff_eq.mpr c33
        clear c33
        by_cases c34 : (bt a0 x3_1) ≥ 97
        ·rw [if_pos c34] at H
         have c34b0 : decide (97 ≤ (bt a0 x3_1)) = true := decide_eq_true c34
         clear c34
         by_cases c35 : (bt a0 x3_1) ≤ 122
         ·rw [if_pos c35] at H
          have c35b0 := decide_eq_true c35
          clear c35
          have H' := Aside0.mk H
          clear H
          go_wp2
          go_roundg kj4
          case measure => have := HK1.out; have := HJ4.out; omega
          case rel => exact ⟨(wrap64 (x3_1 + 1)), (by first | rfl | (simp; done) | (simp [*]; done) | (simp; exact (by intro l_; cases l_ <;> rfl : ∀ l_ : List UInt8, l_.isEmpty = !(l_ != [])) _)), H', ⟨by have := HK1.out; have := HJ4.out; omega⟩, drw⟩
         ·rw [if_neg c35] at H
          have c35b0 := decide_eq_false c35
          clear c35
          by_cases c36 : (bt a0 x3_1) ≥ 48
          ·rw [if_pos c36] at H
           have c36b0 : decide (48 ≤ (bt a0 x3_1)) = true := decide_eq_true c36
           clear c36
           by_cases c37 : (bt a0 x3_1) ≤ 57
           ·rw [if_pos c37] at H
            have c37b0 := decide_eq_true c37
            clear c37
            have H' := Aside0.mk H
            clear H
            go_wp2
            go_roundg kj4
            case measure => have := HK1.out; have := HJ4.out; omega
            case rel => exact ⟨(wrap64 (x3_1 + 1)), (by first | rfl | (simp; done) | (simp [*]; done) | (simp; exact (by intro l_; cases l_ <;> rfl : ∀ l_ : List UInt8, l_.isEmpty = !(l_ != [])) _)), H', ⟨by have := HK1.out; have := HJ4.out; omega⟩, drw⟩
           ·rw [if_neg c37] at H
            have c37b0 := decide_eq_false c37
            clear c37
            by_cases c38 : (bt a0 x3_1) = 45
            ·rw [if_pos c38] at H
             have c38b0 := beq_iff_eq.mpr c38
             have c38b1 := bne_eq_false_iff_eq.mpr c38
             clear c38
             obtain rfl := Option.some.inj H
             go_wp2
             go_ret
             exact ⟨by first | rfl | (simp; done) | (simp [*]; done) | (simp; exact (by intro l_; cases l_ <;> rfl : ∀ l_ : List UInt8, l_.isEmpty = !(l_ != [])) _), drw⟩
            ·rw [if_neg c38] at H
             have c38b0 := beq_eq_false_iff_ne.mpr c38
             have c38b1 := bne_iff_ne.mpr c38
             obtain rfl := Option.some.inj H
             go_wp2
             go_ret
             exact ⟨by first | rfl | (simp; done) | (simp [*]; done) | (simp; exact (by intro l_; cases l_ <;> rfl : ∀ l_ : List UInt8, l_.isEmpty = !(l_ != [])) _), drw⟩
          ·rw [if_neg c36] at H
           have c36b0 : decide (48 ≤ (bt a0 x3_1)) = false := decide_eq_false c36
           clear c36
           by_cases c39 : (bt a0 x3_1) = 45
           ·rw [if_pos c39] at H
            have c39b0 := beq_iff_eq.mpr c39
            have c39b1 := bne_eq_false_iff_eq.mpr c39
            clear c39
            obtain rfl := Option.some.inj H
            go_wp2
            go_ret
            exact ⟨by first | rfl | (simp; done) | (simp [*]; done) | (simp; exact (by intro l_; cases l_ <;> rfl : ∀ l_ : List UInt8, l_.isEmpty = !(l_ != [])) _), drw⟩
           ·rw [if_neg c39] at H
            have c39b0 := beq_eq_false_iff_ne.mpr c39
            have c39b1 := bne_iff_ne.mpr c39
            obtain rfl := Option.some.inj H
            go_wp2
            go_ret
            exact ⟨by first | rfl | (simp; done) | (simp [*]; done) | (simp; exact (by intro l_; cases l_ <;> rfl : ∀ l_ : List UInt8, l_.isEmpty = !(l_ != [])) _), drw⟩
        ·rw [if_neg c34] at H
         have c34b0 : decide (97 ≤ (bt a0 x3_1)) = false := decide_eq_false c34
         clear c34
         by_cases c40 : (bt a0 x3_1) ≥ 48
         ·rw [if_pos c40] at H
          have c40b0 : decide (48 ≤ (bt a0 x3_1)) = true := decide_eq_true c40
          clear c40
          by_cases c41 : (bt a0 x3_1) ≤ 57
          ·rw [if_pos c41] at H
           have c41b0 := decide_eq_true c41
           clear c41
           have H' := Aside0.mk H
           clear H
           go_wp2
           go_roundg kj4
           case measure => have := HK1.out; have := HJ4.out; omega
           case rel => exact ⟨(wrap64 (x3_1 + 1)), (by first | rfl | (simp; done) | (simp [*]; done) | (simp; exact (by intro l_; cases l_ <;> rfl : ∀ l_ : List UInt8, l_.isEmpty = !(l_ != [])) _)), H', ⟨by have := HK1.out; have := HJ4.out; omega⟩, drw⟩
          ·rw [if_neg c41] at H
           have c41b0 := decide_eq_false c41
           clear c41
           by_cases c42 : (bt a0 x3_1) = 45
           ·rw [if_pos c42] at H
            have c42b0 := beq_iff_eq.mpr c42
            have c42b1 := bne_eq_false_iff_eq.mpr c42
            clear c42
            obtain rfl := Option.some.inj H
            go_wp2
            go_ret
            exact ⟨by first | rfl | (simp; done) | (simp [*]; done) | (simp; exact (by intro l_; cases l_ <;> rfl : ∀ l_ : List UInt8, l_.isEmpty = !(l_ != [])) _), drw⟩
           ·rw [if_neg c42] at H
            have c42b0 := beq_eq_false_iff_ne.mpr c42
            have c42b1 := bne_iff_ne.mpr c42
            obtain rfl := Option.some.inj H
            go_wp2
            go_ret
            exact ⟨by first | rfl | (simp; done) | (simp [*]; done) | (simp; exact (by intro l_; cases l_ <;> rfl : ∀ l_ : List UInt8, l_.isEmpty = !(l_ != [])) _), drw⟩
         ·rw [if_neg c40] at H
          have c40b0 : decide (48 ≤ (bt a0 x3_1)) = false := decide_eq_false c40
          clear c40
          by_cases c43 : (bt a0 x3_1) = 45
          ·rw [if_pos c43] at H
           have c43b0 := beq_iff_eq.mpr c43
           have c43b1 := bne_eq_false_iff_eq.mpr c43
           clear c43
           obtain rfl := Option.some.inj H
           go_wp2
           go_ret
           exact ⟨by first | rfl | (simp; done) | (simp [*]; done) | (simp; exact (by intro l_; cases l_ <;> rfl : ∀ l_ : List UInt8, l_.isEmpty = !(l_ != [])) _), drw⟩
          ·rw [if_neg c43] at H
           have c43b0 := beq_eq_false_iff_ne.mpr c43
           have c43b1 := bne_iff_ne.mpr c43
           obtain rfl := Option.some.inj H
           go_wp2
           go_ret
           exact ⟨by first | rfl | (simp; done) | (simp [*]; done) | (simp; exact (by intro l_; cases l_ <;> rfl : ∀ l_ : List UInt8, l_.isEmpty = !(l_ != [])) _), drw⟩
       ·rw [if_neg c33] at H
        have c33b0 := beq_eq_false_iff_ne.mpr c33
        have c33b1 := bne_iff_ne.mpr c33
        by_cases c44 : (bt a0 x3_1) ≥ 97
        ·rw [if_pos c44] at H
         have c44b0 : decide (97 ≤ (bt a0 x3_1)) = true := decide_eq_true c44
         clear c44
         by_cases c45 : (bt a0 x3_1) ≤ 122
         ·rw [if_pos c45] at H
          have c45b0 := decide_eq_true c45
          clear c45
          have H' := Aside0.mk H
          clear H
          go_wp2
          go_roundg kj4
          case measure => have := HK1.out; have := HJ4.out; omega
          case rel => exact ⟨(wrap64 (x3_1 + 1)), (by first | rfl | (simp; done) | (simp [*]; done) | (simp; exact (by intro l_; cases l_ <;> rfl : ∀ l_ : List UInt8, l_.isEmpty = !(l_ != [])) _)), H', ⟨by have := HK1.out; have := HJ4.out; omega⟩, drw⟩
         ·rw [if_neg c45] at H
          have c45b0 := decide_eq_false c45
          clear c45
          by_cases c46 : (bt a0 x3_1) ≥ 48
          ·rw [if_pos c46] at H
           have c46b0 : decide (48 ≤ (bt a0 x3_1)) = true := decide_eq_true c46
           clear c46
           by_cases c47 : (bt a0 x3_1) ≤ 57
           ·rw [if_pos c47] at H
            have c47b0 := decide_eq_true c47
            clear c47
            have H' := Aside0.mk H
            clear H
            go_wp2
            go_roundg kj4
            case measure => have := HK1.out; have := HJ4.out; omega
            case rel => exact ⟨(wrap64 (x3_1 + 1)), (by first | rfl | (simp; done) | (simp [*]; done) | (simp; exact (by intro l_; cases l_ <;> rfl : ∀ l_ : List UInt8, l_.isEmpty = !(l_ != [])) _)), H', ⟨by have := HK1.out; have := HJ4.out; omega⟩, drw⟩
           ·rw [if_neg c47] at H
            have c47b0 := decide_eq_false c47
            clear c47
            by_cases c48 : (bt a0 x3_1) = 45
            ·rw [if_pos c48] at H
             have c48b0 := beq_iff_eq.mpr c48
             have c48b1 := bne_eq_false_iff_eq.mpr c48
             clear c48
             by_cases c49 : x3_1 = (wrap64 ((a0.size : Int) - 1))
             ·rw [if_pos c49] at H
              have c49b0 := beq_iff_eq.mpr c49
              have c49b1 := bne_eq_false_iff_eq.mpr c49
              clear c49
              obtain rfl := Option.some.inj H
              go_wp2
              go_ret
              exact ⟨by first | rfl | (simp; done) | (simp [*]; done) | (simp; exact (by intro l_; cases l_ <;> rfl : ∀ l_ : List UInt8, l_.isEmpty = !(l_ != [])) _), drw⟩
             ·rw [if_neg c49] at H
              have c49b0 := beq_eq_false_iff_ne.mpr c49
              have c49b1 := bne_iff_ne.mpr c49
              have H' := Aside0.mk H
              clear H
              go_wp2
              go_roundg kj4
              case measure => have := HK1.out; have := HJ4.out; omega
              case rel => exact ⟨(wrap64 (x3_1 + 1)), (by first | rfl | (simp; done) | (simp [*]; done) | (simp; exact (by intro l_; cases l_ <;> rfl : ∀ l_ : List UInt8, l_.isEmpty = !(l_ != [])) _)), H', ⟨by have := HK1.out; have := HJ4.out; omega⟩, drw⟩
            ·rw [if_neg c48] at H
             have c48b0 := beq_eq_false_iff_ne.mpr c48
             have c48b1 := bne_iff_ne.mpr c48
             obtain rfl := Option.some.inj H
             go_wp2
             go_ret
             exact ⟨by first | rfl | (simp; done) | (simp [*]; done) | (simp; exact (by intro l_; cases l_ <;> rfl : ∀ l_ : List UInt8, l_.isEmpty = !(l_ != [])) _), drw⟩
          ·rw [if_neg c46] at H
           have c46b0 : decide (48 ≤ (bt a0 x3_1)) = false := decide_eq_false c46
           clear c46
           by_cases c50 : (bt a0 x3_1) = 45
           ·rw [if_pos c50] at H
            have c50b0 := beq_iff_eq.mpr c50
            have c50b1 := bne_eq_false_iff_eq.mpr c50
            clear c50
            by_cases c51 : x3_1 = (wrap64 ((a0.size : Int) - 1))
            ·rw [if_pos c51] at H
             have c51b0 := beq_iff_eq.mpr c51
             have c51b1 := bne_eq_false_iff_eq.mpr c51
             clear c51
             obtain rfl := Option.some.inj H
             go_wp2
             go_ret
             exact ⟨by first | rfl | (simp; done) | (simp [*]; done) | (simp; exact (by intro l_; cases l_ <;> rfl : ∀ l_ : List UInt8, l_.isEmpty = !(l_ != [])) _), drw⟩
            ·rw [if_neg c51] at H
             have c51b0 := beq_eq_false_iff_ne.mpr c51
             have c51b1 := bne_iff_ne.mpr c51
             have H' := Aside0.mk H
             clear H
             go_wp2
             go_roundg kj4
             case measure => have := HK1.out; have := HJ4.out; omega
             case rel => exact ⟨(wrap64 (x3_1 + 1)), (by first | rfl | (simp; done) | (simp [*]; done) | (simp; exact (by intro l_; cases l_ <;> rfl : ∀ l_ : List UInt8, l_.isEmpty = !(l_ != [])) _)), H', ⟨by have := HK1.out; have := HJ4.out; omega⟩, drw⟩
           ·rw [if_neg c50] at H
            have c50b0 := beq_eq_false_iff_ne.mpr c50
            have c50b1 := bne_iff_ne.mpr c50
            obtain rfl := Option.some.inj H
            go_wp2
            go_ret
            exact ⟨by first | rfl | (simp; done) | (simp [*]; done) | (simp; exact (by intro l_; cases l_ <;> rfl : ∀ l_ : List UInt8, l_.isEmpty = !(l_ != [])) _), drw⟩
        ·rw [if_neg c44] at H
         have c44b0 : decide (97 ≤ (bt a0 x3_1)) = false := decide_eq_false c44
         clear c44
         by_cases c52 : (bt a0 x3_1) ≥ 48
         ·rw [if_pos c52] at H
          have c52b0 : decide (48 ≤ (bt a0 x3_1)) = true := decide_eq_true c52
          clear c52
          by_cases c53 : (bt a0 x3_1) ≤ 57
          ·rw [if_pos c53] at H
           have c53b0 := decide_eq_true c53
           clear c53
           have H' := Aside0.mk H
           clear H
           go_wp2
           go_roundg kj4
           case measure => have := HK1.out; have := HJ4.out; omega
           case rel => exact ⟨(wrap64 (x3_1 + 1)), (by first | rfl | (simp; done) | (simp [*]; done) | (simp; exact (by intro l_; cases l_ <;> rfl : ∀ l_ : List UInt8, l_.isEmpty = !(l_ != [])) _)), H', ⟨by have := HK1.out; have := HJ4.out; omega⟩, drw⟩
          ·rw [if_neg c53] at H
           have c53b0 := decide_eq_false c53
           clear c53
           by_cases c54 : (bt a0 x3_1) = 45
           ·rw [if_pos c54] at H
            have c54b0 := beq_iff_eq.mpr c54
            have c54b1 := bne_eq_false_iff_eq.mpr c54
            clear c54
            by_cases c55 : x3_1 = (wrap64 ((a0.size : Int) - 1))
            ·rw [if_pos c55] at H
             have c55b0 := beq_iff_eq.mpr c55
             have c55b1 := bne_eq_false_iff_eq.mpr c55
             clear c55
             obtain rfl := Option.some.inj H
             go_wp2
             go_ret
             exact ⟨by first | rfl | (simp; done) | (simp [*]; done) | (simp; exact (by intro l_; cases l_ <;> rfl : ∀ l_ : List UInt8, l_.isEmpty = !(l_ != [])) _), drw⟩
            ·rw [if_neg c55] at H
             have c55b0 := beq_eq_false_iff_ne.mpr c55
             have c55b1 := bne_iff_ne.mpr c55
             have H' := Aside0.mk H
             clear H
             go_wp2
             go_roundg kj4
             case measure => have := HK1.out; have := HJ4.out; omega
             case rel => exact ⟨(wrap64 (x3_1 + 1)), (by first | rfl | (simp; done) | (simp [*]; done) | (simp; exact (by intro l_; cases l_ <;> rfl : ∀ l_ : List UInt8, l_.isEmpty = !(l_ != [])) _)), H', ⟨by have := HK1.out; have := HJ4.out; omega⟩, drw⟩
           ·rw [if_neg c54] at H
            have c54b0 := beq_eq_false_iff_ne.mpr c54
            have c54b1 := bne_iff_ne.mpr c54
            obtain rfl := Option.some.inj H
            go_wp2
            go_ret
            exact ⟨by first | rfl | (simp; done) | (simp [*]; done) | (simp; exact (by intro l_; cases l_ <;> rfl : ∀ l_ : List UInt8, l_.isEmpty = !(l_ != [])) _), drw⟩
         ·rw [if_neg c52] at H
          have c52b0 : decide (48 ≤ (bt a0 x3_1)) = false := decide_eq_false c52
          clear c52
          by_cases c56 : (bt a0 x3_1) = 45
          ·rw [if_pos c56] at H
           have c56b0 := beq_iff_eq.mpr c56
           have c56b1 := bne_eq_false_iff_eq.mpr c56
           clear c56
           by_cases c57 : x3_1 = (wrap64 ((a0.size : Int) - 1))
           ·rw [if_pos c57] at H
            have c57b0 := beq_iff_eq.mpr c57
            have c57b1 := bne_eq_false_iff_eq.mpr c57
            clear c57
            obtain rfl := Option.some.inj H
            go_wp2
            go_ret
            exact ⟨by first | rfl | (simp; done) | (simp [*]; done) | (simp; exact (by intro l_; cases l_ <;> rfl : ∀ l_ : List UInt8, l_.isEmpty = !(l_ != [])) _), drw⟩
           ·rw [if_neg c57] at H
            have c57b0 := beq_eq_false_iff_ne.mpr c57
            have c57b1 := bne_iff_ne.mpr c57
            have H' := Aside0.mk H
            clear H
            go_wp2
            go_roundg kj4
            case measure => have := HK1.out; have := HJ4.out; omega
            case rel => exact ⟨(wrap64 (x3_1 + 1)), (by first | rfl | (simp; done) | (simp [*]; done) | (simp; exact (by intro l_; cases l_ <;> rfl : ∀ l_ : List UInt8, l_.isEmpty = !(l_ != [])) _)), H', ⟨by have := HK1.out; have := HJ4.out; omega⟩, drw⟩
          ·rw [if_neg c56] at H
           have c56b0 := beq_eq_false_iff_ne.mpr c56
           have c56b1 := bne_iff_ne.mpr c56
           obtain rfl := Option.some.inj H
           go_wp2
           go_ret
           exact ⟨by first | rfl | (simp; done) | (simp [*]; done) | (simp; exact (by intro l_; cases l_ <;> rfl : ∀ l_ : List UInt8, l_.isEmpty = !(l_ != [])) _), drw⟩
   ·rw [if_neg c2] at H
    have c2b0 := decide_eq_false c2
    clear c2
    obtain rfl := Option.some.inj H
    go_wp2
    go_ret
    exact ⟨by first | rfl | (simp; done) | (simp [*]; done) | (simp; exact (by intro l_; cases l_ <;> rfl : ∀ l_ : List UInt8, l_.isEmpty = !(l_ != [])) _), drw⟩

end Go.Proofs.YtcpmoolpbeeedaaGreatDoor.Q
