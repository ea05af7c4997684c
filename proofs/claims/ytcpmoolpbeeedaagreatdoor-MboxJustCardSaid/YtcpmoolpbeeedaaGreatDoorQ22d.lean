-- Written by a program of this session (wip/myprint) out of the translation, for YtcpmoolpbeeedaaGreatDoor.
import Derived.Test.YtcpmoolpbeeedaaGreatDoorQ0
import Derived.Test.YtcpmoolpbeeedaaGreatDoorQ123
namespace Go.Proofs.YtcpmoolpbeeedaaGreatDoor.Q
open Go.RowKit Go.Proofs.YtcpmoolpbeeedaaGreatDoorW.PrintWords Go.Proofs.YtcpmoolpbeeedaaGreatDoorW.PrintLast Go.Proofs.YtcpmoolpbeeedaaGreatDoorW.PrintMore Go.Proofs.YtcpmoolpbeeedaaGreatDoorW.PrintSq
attribute [local go_sem] max2_int min2_int max_two min_two max_three min_three max_four min_four   -- for this text's walks alone
set_option linter.unusedVariables false
set_option linter.unusedSimpArgs false

attribute [local go_sem high] eqA34
/-! ### bulletinref23_Marks: function 27 -/
def bulletinref23_Marks.l0 : Nat → ByteArray → Int → Option (Int)
  | 0, _, _ => none
  | k + 1, x0, x3 => if x3 < (x0.size : Int) then (if 0 ≤ x3 then (if (bt x0 x3) = 62 then (bulletinref23_Marks.l0 k x0 (wrap64 (x3 + 1))) else (if (wrap64 (x3 + 5)) ≤ (x0.size : Int) then (if x3 ≤ (wrap64 (x3 + 5)) then (if (x0.extract (x3 : Int).toNat ((wrap64 (x3 + 5)) : Int).toNat).toList = ([70, 114, 111, 109, 32] : List UInt8) then (some x3) else (some (-1))) else (none)) else (some (-1)))) else (none)) else (if (wrap64 (x3 + 5)) ≤ (x0.size : Int) then (if 0 ≤ x3 then (if x3 ≤ (wrap64 (x3 + 5)) then (if (x0.extract (x3 : Int).toNat ((wrap64 (x3 + 5)) : Int).toNat).toList = ([70, 114, 111, 109, 32] : List UInt8) then (some x3) else (some (-1))) else (none)) else (none)) else (some (-1)))
def bulletinref23_Marks.f (k : Nat) (a0 : ByteArray) : Option (Int) := bulletinref23_Marks.l0 k a0 0
theorem bulletinref23_Marks.mono_l : ∀ k, (∀ y0 y1, LeO (bulletinref23_Marks.l0 k y0 y1) (bulletinref23_Marks.l0 (k + 1) y0 y1))
  | 0 => fun _ _ r h => by simp [bulletinref23_Marks.l0] at h
  | k + 1 => by
    have ih0 := bulletinref23_Marks.mono_l k
    · intro y0 y1
      unfold bulletinref23_Marks.l0
      repeat' first | (with_reducible first | exact ih0 _ _ | exact LeO.refl _ | exact LeO.none _ | refine LeO.ite ?_ ?_ | refine LeO.bind ?_ (fun _ => ?_)) | exact ih0 _ _ | exact LeO.none _ | refine LeO.ite ?_ ?_ | refine LeO.bind ?_ (fun _ => ?_)
theorem bulletinref23_Marks.mono : ∀ a0 k, LeO (bulletinref23_Marks.f k a0) (bulletinref23_Marks.f (k + 1) a0) := by
  intro a0 k
  have ih0 := bulletinref23_Marks.mono_l k
  unfold bulletinref23_Marks.f
  repeat' first | (with_reducible first | exact ih0 _ _ | exact LeO.refl _ | exact LeO.none _ | refine LeO.ite ?_ ?_ | refine LeO.bind ?_ (fun _ => ?_)) | exact ih0 _ _ | exact LeO.none _ | refine LeO.ite ?_ ?_ | refine LeO.bind ?_ (fun _ => ?_)
set_option maxHeartbeats 8000000 in
set_option maxRecDepth 100000 in
theorem bulletinref23_Marks.calls (k : Nat) (a0 : ByteArray) (r : Int) (w : World) (h : bulletinref23_Marks.f k a0 = some r) :
    Calls Tryz.prog 27 #[.string a0] w fun e w' => e = .returned (.int .i64 r) ∧ Drawn0 w w' := by
 unfold bulletinref23_Marks.f at h
 have H := h
 clear h
 have H' := Aside0.mk H
 clear H
 go_enter Tryz.func27, Tryz.ntmps27
 go_wp2
 go_loopg [3] k (fun kq v3 w' => ∃ (x3_1 : Int), v3 = .int .i64 x3_1 ∧ Aside0 (bulletinref23_Marks.l0 kq a0 x3_1 = some r) ∧ Aside0 (kq ≤ k) ∧ Drawn0 w w')
 case atStart => exact ⟨(0), eqs, H', ⟨Nat.le_refl _⟩, drw⟩
 case round =>
  clear H'
  obtain ⟨x3_1, rfl, HA, HK1, ⟨m1, rfl⟩⟩ := hrel
  cases gk with
  | zero => exact absurd HA.out (by simp [bulletinref23_Marks.l0])
  | succ k1 =>
   have H := HA.out
   clear HA
   simp only [bulletinref23_Marks.l0] at H
   by_cases c2 : x3_1 < (a0.size : Int)
   ·rw [if_pos c2] at H
    have c2b0 := decide_eq_true c2
    clear c2
    obtain ⟨c3, H⟩ := iteS H
    have c3b0 := decide_eq_true c3
    clear c3
    by_cases c5 : (bt a0 x3_1) = 62
    ·rw [if_pos c5] at H
     have c5b0 := beq_iff_eq.mpr c5
     have c5b1 := bne_eq_false_iff_eq.mpr c5
     clear c5
     have H' := Aside0.mk H
     clear H
     have p4 : 0 ≤ (x3_1 : Int) := od_
     have q4 : x3_1 < (a0.size : Int) := od_
     have hx4 := bt_at a0 x3_1
     replace p4 := eq_true p4
     replace q4 := eq_true q4
     go_wp2
     go_roundg k1
     case measure => have := HK1.out; omega
     case rel => exact ⟨(wrap64 (x3_1 + 1)), eqs, H', ⟨by have := HK1.out; omega⟩, drw⟩
    ·rw [if_neg c5] at H
     have c5b0 := beq_eq_false_iff_ne.mpr c5
     have c5b1 := bne_iff_ne.mpr c5
     by_cases c6 : (wrap64 (x3_1 + 5)) ≤ (a0.size : Int)
     ·rw [if_pos c6] at H
      have c6b0 := decide_eq_true c6
      clear c6
      have c7b0 := eq_true (od_ : 0 ≤ x3_1)
      obtain ⟨c8, H⟩ := iteS H
      have c8b0 := eq_true c8
      have c8b1 := decide_eq_true c8
      have c9b0 := eq_true (od_ : (wrap64 (x3_1 + 5)) ≤ (a0.size : Int))
      by_cases c10 : (a0.extract (x3_1 : Int).toNat ((wrap64 (x3_1 + 5)) : Int).toNat).toList = ([70, 114, 111, 109, 32] : List UInt8)
      ·rw [if_pos c10] at H
       have c10b0 := beq_iff_eq.mpr c10
       have c10b1 := bne_eq_false_iff_eq.mpr c10
       clear c10
       obtain rfl := Option.some.inj H
       have p4 : 0 ≤ (x3_1 : Int) := od_
       have q4 : x3_1 < (a0.size : Int) := od_
       have hx4 := bt_at a0 x3_1
       replace p4 := eq_true p4
       replace q4 := eq_true q4
       go_wp2
       go_ret
       exact ⟨eqs, drw⟩
      ·rw [if_neg c10] at H
       have c10b0 := beq_eq_false_iff_ne.mpr c10
       have c10b1 := bne_iff_ne.mpr c10
       obtain rfl := Option.some.inj H
       have p4 : 0 ≤ (x3_1 : Int) := od_
       have q4 : x3_1 < (a0.size : Int) := od_
       have hx4 := bt_at a0 x3_1
       replace p4 := eq_true p4
       replace q4 := eq_true q4
       go_wp2
       go_ret
       exact ⟨eqs, drw⟩
     ·rw [if_neg c6] at H
      have c6b0 := decide_eq_false c6
      clear c6
      obtain rfl := Option.some.inj H
      have p4 : 0 ≤ (x3_1 : Int) := od_
      have q4 : x3_1 < (a0.size : Int) := od_
      have hx4 := bt_at a0 x3_1
      replace p4 := eq_true p4
      replace q4 := eq_true q4
      go_wp2
      go_ret
      exact ⟨eqs, drw⟩
   ·rw [if_neg c2] at H
    have c2b0 := decide_eq_false c2
    clear c2
    by_cases c11 : (wrap64 (x3_1 + 5)) ≤ (a0.size : Int)
    ·rw [if_pos c11] at H
     have c11b0 := decide_eq_true c11
     clear c11
     obtain ⟨c12, H⟩ := iteS H
     have c12b0 := eq_true c12
     have c12b1 := decide_eq_true c12
     clear c12
     obtain ⟨c13, H⟩ := iteS H
     have c13b0 := eq_true c13
     have c13b1 := decide_eq_true c13
     have c14b0 := eq_true (od_ : (wrap64 (x3_1 + 5)) ≤ (a0.size : Int))
     by_cases c15 : (a0.extract (x3_1 : Int).toNat ((wrap64 (x3_1 + 5)) : Int).toNat).toList = ([70, 114, 111, 109, 32] : List UInt8)
     ·rw [if_pos c15] at H
      have c15b0 := beq_iff_eq.mpr c15
      have c15b1 := bne_eq_false_iff_eq.mpr c15
      clear c15
      obtain rfl := Option.some.inj H
      go_wp2
      go_ret
      exact ⟨eqs, drw⟩
     ·rw [if_neg c15] at H
      have c15b0 := beq_eq_false_iff_ne.mpr c15
      have c15b1 := bne_iff_ne.mpr c15
      obtain rfl := Option.some.inj H
      go_wp2
      go_ret
      exact ⟨eqs, drw⟩
    ·rw [if_neg c11] at H
     have c11b0 := decide_eq_false c11
     clear c11
     obtain rfl := Option.some.inj H
     go_wp2
     go_ret
     exact ⟨eqs, drw⟩
end Go.Proofs.YtcpmoolpbeeedaaGreatDoor.Q
