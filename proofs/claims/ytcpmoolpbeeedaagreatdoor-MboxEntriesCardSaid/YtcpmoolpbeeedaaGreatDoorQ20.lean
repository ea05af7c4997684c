-- Written by a program of this session (wip/myprint) out of the translation, for YtcpmoolpbeeedaaGreatDoor.
import Derived.Test.YtcpmoolpbeeedaaGreatDoorQ0
import Derived.Test.YtcpmoolpbeeedaaGreatDoorQ19
namespace Go.Proofs.YtcpmoolpbeeedaaGreatDoor.Q
open Go.RowKit Go.Proofs.YtcpmoolpbeeedaaGreatDoorW.PrintWords Go.Proofs.YtcpmoolpbeeedaaGreatDoorW.PrintLast Go.Proofs.YtcpmoolpbeeedaaGreatDoorW.PrintMore Go.Proofs.YtcpmoolpbeeedaaGreatDoorW.PrintSq
attribute [local go_sem] max2_int min2_int max_two min_two max_three min_three max_four min_four   -- for this text's walks alone
set_option linter.unusedVariables false
set_option linter.unusedSimpArgs false

/-! ### bulletinref23_Marks: function 27 -/
def bulletinref23_Marks.l0 : Nat → ByteArray → Int → Option (Int)
  | 0, _, _ => none
  | k + 1, x0, x3 => if x3 < (x0.size : Int) then (if 0 ≤ x3 then (if (bt x0 x3) = 62 then (bulletinref23_Marks.l0 k x0 (wrap64 (x3 + 1))) else (if (wrap64 (x3 + 5)) ≤ (x0.size : Int) then (if x3 ≤ (wrap64 (x3 + 5)) then (if (x0.extract (x3 : Int).toNat ((wrap64 (x3 + 5)) : Int).toNat).toList = ([70, 114, 111, 109, 32] : List UInt8) then (some x3) else (some (-1))) else (none)) else (some (-1)))) else (none)) else (if (wrap64 (x3 + 5)) ≤ (x0.size : Int) then (if 0 ≤ x3 then (if x3 ≤ (wrap64 (x3 + 5)) then (if (x0.extract (x3 : Int).toNat ((wrap64 (x3 + 5)) : Int).toNat).toList = ([70, 114, 111, 109, 32] : List UInt8) then (some x3) else (some (-1))) else (none)) else (none)) else (some (-1)))
def bulletinref23_Marks.f (k : Nat) (a0 : ByteArray) : Option (Int) := bulletinref23_Marks.l0 k a0 0
theorem bulletinref23_Marks.mono_l : ∀ k, (∀ y0 y1, LeO (bulletinref23_Marks.l0 k y0 y1) (bulletinref23_Marks.l0 (k + 1) y0 y1))
  | 0 => fun _ _ r h => by simp [bulletinref23_Marks.l0] at h
  | k + 1 => by
    have ih0 := bulletinref23_Marks.mono_l k
    · intro y0 y1
      unfold bulletinref23_Marks.l0
      repeat' first | (with_reducible first | exact ih0 _ _ | exact LeO.refl _ | exact LeO.none _ | refine LeO.ite ?_ ?_ | refine LeO.bind ?_ (fun _ => ?_)) | exact ih0 _ _ | exact LeO.none _ | refine LeO.ite ?_ ?_ | refine LeO.bind ?_ (fun _ => ?_)
theorem bulletinref23_Marks.mono : ∀ a0 k, LeO (bulletinref23_Marks.f k a0) (bulletinref23_Marks.f (k + 1) a0) := by
  intro a0 k
  have ih0 := bulletinref23_Marks.mono_l k
  unfold bulletinref23_Marks.f
  repeat' first | (with_reducible first | exact ih0 _ _ | exact LeO.refl _ | exact LeO.none _ | refine LeO.ite ?_ ?_ | refine LeO.bind ?_ (fun _ => ?_)) | exact ih0 _ _ | exact LeO.none _ | refine LeO.ite ?_ ?_ | refine LeO.bind ?_ (fun _ => ?_)
set_option maxHeartbeats 8000000 in
set_option maxRecDepth 100000 in
theorem bulletinref23_Marks.calls (k : Nat) (a0 : ByteArray) (r : Int) (w : World) (h : bulletinref23_Marks.f k a0 = some r) :
    Calls Tryz.prog 27 #[.string a0] w fun e w' => e = .returned (.int .i64 r) ∧ Drawn0 w w' := by
 unfold bulletinref23_Marks.f at h
 have H := h
 clear h
 have H' := Aside0.mk H
 clear H
 go_enter Tryz.func27, Tryz.ntmps27
 go_wp2
 go_loopg [3] k (fun kq v3 w' => ∃ (x3_1 : Int), v3 = .int .i64 x3_1 ∧ Aside0 (bulletinref23_Marks.l0 kq a0 x3_1 = some r) ∧ Aside0 (kq ≤ k) ∧ Drawn0 w w')
 case atStart => exact ⟨(0), eqs, H', ⟨Nat.le_refl _⟩, drw⟩
 case round =>
  clear H'
  obtain ⟨x3_1, rfl, HA, HK1, ⟨m1, rfl⟩⟩ := hrel
  cases gk with
  | zero => exact absurd HA.out (by simp [bulletinref23_Marks.l0])
  | succ k1 =>
   have H := HA.out
   clear HA
   simp only [bulletinref23_Marks.l0] at H
   by_cases c2 : x3_1 < (a0.size : Int)
   ·rw [if_pos c2] at H
    have c2b0 := decide_eq_true c2
    clear c2
    obtain ⟨c3, H⟩ := iteS H
    have c3b0 := decide_eq_true c3
    clear c3
    by_cases c5 : (bt a0 x3_1) = 62
    ·rw [if_pos c5] at H
     have c5b0 := beq_iff_eq.mpr c5
     have c5b1 := bne_eq_false_iff_eq.mpr c5
     clear c5
     have H' := Aside0.mk H
     clear H
     have p4 : 0 ≤ (x3_1 : Int) := od_
     have q4 : x3_1 < (a0.size : Int) := od_
     have hx4 := bt_at a0 x3_1
     replace p4 := eq_true p4
     replace q4 := eq_true q4
     go_wp2
     go_roundg k1
     case measure => have := HK1.out; omega
     case rel => exact ⟨(wrap64 (x3_1 + 1)), eqs, H', ⟨by have := HK1.out; omega⟩, drw⟩
    ·rw [if_neg c5] at H
     have c5b0 := beq_eq_false_iff_ne.mpr c5
     have c5b1 := bne_iff_ne.mpr c5
     by_cases c6 : (wrap64 (x3_1 + 5)) ≤ (a0.size : Int)
     ·rw [if_pos c6] at H
      have c6b0 := decide_eq_true c6
      clear c6
      have c7b0 := eq_true (od_ : 0 ≤ x3_1)
      obtain ⟨c8, H⟩ := iteS H
      have c8b0 := eq_true c8
      have c8b1 := decide_eq_true c8
      have c9b0 := eq_true (od_ : (wrap64 (x3_1 + 5)) ≤ (a0.size : Int))
      by_cases c10 : (a0.extract (x3_1 : Int).toNat ((wrap64 (x3_1 + 5)) : Int).toNat).toList = ([70, 114, 111, 109, 32] : List UInt8)
      ·rw [if_pos c10] at H
       have c10b0 := beq_iff_eq.mpr c10
       have c10b1 := bne_eq_false_iff_eq.mpr c10
       clear c10
       obtain rfl := Option.some.inj H
       have p4 : 0 ≤ (x3_1 : Int) := od_
       have q4 : x3_1 < (a0.size : Int) := od_
       have hx4 := bt_at a0 x3_1
       replace p4 := eq_true p4
       replace q4 := eq_true q4
       go_wp2
       go_ret
       exact ⟨eqs, drw⟩
      ·rw [if_neg c10] at H
       have c10b0 := beq_eq_false_iff_ne.mpr c10
       have c10b1 := bne_iff_ne.mpr c10
       obtain rfl := Option.some.inj H
       have p4 : 0 ≤ (x3_1 : Int) := od_
       have q4 : x3_1 < (a0.size : Int) := od_
       have hx4 := bt_at a0 x3_1
       replace p4 := eq_true p4
       replace q4 := eq_true q4
       go_wp2
       go_ret
       exact ⟨eqs, drw⟩
     ·rw [if_neg c6] at H
      have c6b0 := decide_eq_false c6
      clear c6
      obtain rfl := Option.some.inj H
      have p4 : 0 ≤ (x3_1 : Int) := od_
      have q4 : x3_1 < (a0.size : Int) := od_
      have hx4 := bt_at a0 x3_1
      replace p4 := eq_true p4
      replace q4 := eq_true q4
      go_wp2
      go_ret
      exact ⟨eqs, drw⟩
   ·rw [if_neg c2] at H
    have c2b0 := decide_eq_false c2
    clear c2
    by_cases c11 : (wrap64 (x3_1 + 5)) ≤ (a0.size : Int)
    ·rw [if_pos c11] at H
     have c11b0 := decide_eq_true c11
     clear c11
     obtain ⟨c12, H⟩ := iteS H
     have c12b0 := eq_true c12
     have c12b1 := decide_eq_true c12
     clear c12
     obtain ⟨c13, H⟩ := iteS H
     have c13b0 := eq_true c13
     have c13b1 := decide_eq_true c13
     have c14b0 := eq_true (od_ : (wrap64 (x3_1 + 5)) ≤ (a0.size : Int))
     by_cases c15 : (a0.extract (x3_1 : Int).toNat ((wrap64 (x3_1 + 5)) : Int).toNat).toList = ([70, 114, 111, 109, 32] : List UInt8)
     ·rw [if_pos c15] at H
      have c15b0 := beq_iff_eq.mpr c15
      have c15b1 := bne_eq_false_iff_eq.mpr c15
      clear c15
      obtain rfl := Option.some.inj H
      go_wp2
      go_ret
      exact ⟨eqs, drw⟩
     ·rw [if_neg c15] at H
      have c15b0 := beq_eq_false_iff_ne.mpr c15
      have c15b1 := bne_iff_ne.mpr c15
      obtain rfl := Option.some.inj H
      go_wp2
      go_ret
      exact ⟨eqs, drw⟩
    ·rw [if_neg c11] at H
     have c11b0 := decide_eq_false c11
     clear c11
     obtain rfl := Option.some.inj H
     go_wp2
     go_ret
     exact ⟨eqs, drw⟩

/-! ### bulletinref23_Quote: function 11 -/
def bulletinref23_Quote.l0 : Nat → List ByteArray → ByteArray → Int → Option (ByteArray)
  | 0, _, _, _ => none
  | k + 1, x3, x4, x5 => if x5 < (x3.length : Int) then (if x5 > 0 then (if x4.size + 2 ≤ 9223372036854775807 then (if 0 ≤ x5 then ((bulletinref23_Marks.f k (rdOf ByteArray.empty x3 x5)).bind fun t404 => (if t404 ≥ 0 then (if x4.size + 2 + 1 ≤ 9223372036854775807 then (if x4.size + 2 + 1 + (rdOf ByteArray.empty x3 x5).size ≤ 9223372036854775807 then (bulletinref23_Quote.l0 k x3 (((x4 ++ (⟨#[13, 10]⟩ : ByteArray)) ++ (⟨#[62]⟩ : ByteArray)) ++ (rdOf ByteArray.empty x3 x5)) (wrap64 (x5 + 1))) else (none)) else (none)) else (if x4.size + 2 + (rdOf ByteArray.empty x3 x5).size ≤ 9223372036854775807 then (bulletinref23_Quote.l0 k x3 ((x4 ++ (⟨#[13, 10]⟩ : ByteArray)) ++ (rdOf ByteArray.empty x3 x5)) (wrap64 (x5 + 1))) else (none)))) else (none)) else (none)) else (if 0 ≤ x5 then ((bulletinref23_Marks.f k (rdOf ByteArray.empty x3 x5)).bind fun t408 => (if t408 ≥ 0 then (if x4.size + 1 ≤ 9223372036854775807 then (if x4.size + 1 + (rdOf ByteArray.empty x3 x5).size ≤ 9223372036854775807 then (bulletinref23_Quote.l0 k x3 ((x4 ++ (⟨#[62]⟩ : ByteArray)) ++ (rdOf ByteArray.empty x3 x5)) (wrap64 (x5 + 1))) else (none)) else (none)) else (if x4.size + (rdOf ByteArray.empty x3 x5).size ≤ 9223372036854775807 then (bulletinref23_Quote.l0 k x3 (x4 ++ (rdOf ByteArray.empty x3 x5)) (wrap64 (x5 + 1))) else (none)))) else (none))) else (some x4)
def bulletinref23_Quote.f (k : Nat) (a0 : ByteArray) : Option (ByteArray) := (bulletinref17_Lines.f k a0).bind fun t400 => (bulletinref23_Quote.l0 k t400 (⟨#[]⟩ : ByteArray) 0)
theorem bulletinref23_Quote.mono_l : ∀ k, (∀ y0 y1 y2, LeO (bulletinref23_Quote.l0 k y0 y1 y2) (bulletinref23_Quote.l0 (k + 1) y0 y1 y2))
  | 0 => fun _ _ _ r h => by simp [bulletinref23_Quote.l0] at h
  | k + 1 => by
    have ih0 := bulletinref23_Quote.mono_l k
    · intro y0 y1 y2
      unfold bulletinref23_Quote.l0
      repeat' first | (with_reducible first | exact ih0 _ _ _ | exact bulletinref17_Lines.mono _ _ | exact bulletinref23_Marks.mono _ _ | exact LeO.refl _ | exact LeO.none _ | refine LeO.ite ?_ ?_ | refine LeO.bind ?_ (fun _ => ?_)) | exact ih0 _ _ _ | exact bulletinref17_Lines.mono _ _ | exact bulletinref23_Marks.mono _ _ | exact LeO.none _ | refine LeO.ite ?_ ?_ | refine LeO.bind ?_ (fun _ => ?_)
theorem bulletinref23_Quote.mono : ∀ a0 k, LeO (bulletinref23_Quote.f k a0) (bulletinref23_Quote.f (k + 1) a0) := by
  intro a0 k
  have ih0 := bulletinref23_Quote.mono_l k
  unfold bulletinref23_Quote.f
  repeat' first | (with_reducible first | exact ih0 _ _ _ | exact bulletinref17_Lines.mono _ _ | exact bulletinref23_Marks.mono _ _ | exact LeO.refl _ | exact LeO.none _ | refine LeO.ite ?_ ?_ | refine LeO.bind ?_ (fun _ => ?_)) | exact ih0 _ _ _ | exact bulletinref17_Lines.mono _ _ | exact bulletinref23_Marks.mono _ _ | exact LeO.none _ | refine LeO.ite ?_ ?_ | refine LeO.bind ?_ (fun _ => ?_)
set_option maxHeartbeats 8000000 in
set_option maxRecDepth 100000 in
theorem bulletinref23_Quote.calls (k : Nat) (a0 : ByteArray) (r : ByteArray) (w : World) (h : bulletinref23_Quote.f k a0 = some r) :
    Calls Tryz.prog 11 #[.string a0] w fun e w' => e = .returned (.string r) ∧ Below w.heap.size w w' := by
 have HB := Aside0.mk (Below.refl w.heap.size w)
 unfold bulletinref23_Quote.f at h
 have H := h
 clear h
 replace H := Option.bind_eq_some_iff.mp H
 obtain ⟨t400, A20, H⟩ := H
 try dsimp only at H
 have A2 := Aside0.mk A20
 clear A20
 have H' := Aside0.mk H
 clear H
 go_enter Tryz.func11, Tryz.ntmps11
 go_wp2_with (first | ((with_reducible refine gc 26 rfl ?_); refine gl_ (some 7) Tryz.func26 #[.string a0] ?_; (with_reducible refine (bulletinref17_Lines.calls k a0 t400 _ A2.out).mono ?_); rintro e w3 ⟨v401, rfl, ho0, hb⟩; refine ⟨_, rfl, ?_⟩; have HO402 := Aside0.mk (Kd.R_lower ho0 (below_size blw)); replace HB := Aside0.mk (below_step blw hb); (try clear hb); (try clear ho0)))
 go_loopg [4, 5] k (fun kq v4 v5 w' => ∃ (x4_1 : ByteArray) (x5_1 : Int), v4 = .string x4_1 ∧ v5 = .int .i64 x5_1 ∧ Aside0 (bulletinref23_Quote.l0 kq t400 x4_1 x5_1 = some r) ∧ Aside0 (kq ≤ k) ∧ Aside0 (Kd.R Kd.string 9 w' w.heap.size (fun _ => True) v401 t400) ∧ Aside0 (Below w.heap.size w w'))
 case atStart => exact ⟨((⟨#[]⟩ : ByteArray)), (0), eqs, eqs, H', ⟨Nat.le_refl _⟩, ⟨by (with_reducible repeat (first | apply Kd.R_alloc | apply Kd.R_drewN | apply Kd.R_drew)); exact HO402.out⟩, ⟨blw⟩⟩
 case round =>
  clear H'
  try clear c1
  try clear c2
  try clear p2
  obtain ⟨x4_1, x5_1, rfl, rfl, HA, HK1, HO_3, HB⟩ := hrel
  cases gk with
  | zero => exact absurd HA.out (by simp [bulletinref23_Quote.l0])
  | succ k1 =>
   have H := HA.out
   clear HA
   simp only [bulletinref23_Quote.l0] at H
   by_cases c4 : x5_1 < (t400.length : Int)
   ·rw [if_pos c4] at H
    have c4b0 := decide_eq_true c4
    clear c4
    by_cases c5 : x5_1 > 0
    ·rw [if_pos c5] at H
     have c5b0 : decide (0 < x5_1) = true := decide_eq_true c5
     clear c5
     obtain ⟨c6, H⟩ := iteS H
     have c6b0 := eq_true c6
     have c6b1 := decide_eq_true c6
     try have c6b2 := eq_false (Nat.not_lt.2 c6)
     obtain ⟨c7, H⟩ := iteS H
     have c7b0 := decide_eq_true c7
     clear c7
     replace H := Option.bind_eq_some_iff.mp H
     obtain ⟨t404, A80, H⟩ := H
     try dsimp only at H
     have A8 := Aside0.mk A80
     clear A80
     by_cases c9 : t404 ≥ 0
     ·rw [if_pos c9] at H
      have c9b0 : decide (0 ≤ t404) = true := decide_eq_true c9
      clear c9
      obtain ⟨c10, H⟩ := iteS H
      have c10b0 := eq_true c10
      have c10b1 := decide_eq_true c10
      try have c10b2 := eq_false (Nat.not_lt.2 c10)
      obtain ⟨c11, H⟩ := iteS H
      have c11b0 := eq_true c11
      have c11b1 := decide_eq_true c11
      try have c11b2 := eq_false (Nat.not_lt.2 c11)
      have H' := Aside0.mk H
      clear H
      obtain ⟨Ao12, co12, eo12⟩ := Kd.R_slice HO_3.out
      subst eo12
      have p403 : 0 ≤ (x5_1 : Int) := od_
      have q403 : x5_1 < (t400.length : Int) := od_
      obtain ⟨ad403, e403, hx403_0⟩ := Kd.at_string (Kd.R_reads' HO_3.out).2.2 x5_1 p403 q403
      cases e403
      replace p403 := eq_true p403
      replace q403 := eq_true q403
      go_wp2_with (first | ((with_reducible refine gc 27 rfl ?_); refine cl_ (some 22) Tryz.func27 (bulletinref23_Marks.calls k1 (rdOf ByteArray.empty t400 x5_1) t404 _ A8.out) ?_; rintro w' ⟨nd, rfl⟩; have p405 : 0 ≤ (x5_1 : Int) := od_; have q405 : x5_1 < (t400.length : Int) := od_; obtain ⟨ad405, e405, hx405_0⟩ := Kd.at_string (Kd.R_reads' HO_3.out).2.2 x5_1 p405 q405; obtain rfl : ad403 = ad405 := (by injection e405); replace p405 := eq_true p405; replace q405 := eq_true q405))
      go_roundg k1
      case measure => have := HK1.out; omega
      case rel => exact ⟨(((x4_1 ++ (⟨#[13, 10]⟩ : ByteArray)) ++ (⟨#[62]⟩ : ByteArray)) ++ (rdOf ByteArray.empty t400 x5_1)), (wrap64 (x5_1 + 1)), eqs, eqs, H', ⟨by have := HK1.out; omega⟩, ⟨by (with_reducible repeat (first | apply Kd.R_alloc | apply Kd.R_drewN | apply Kd.R_drew)); exact HO_3.out⟩, ⟨blw⟩⟩
     ·rw [if_neg c9] at H
      have c9b0 : decide (0 ≤ t404) = false := decide_eq_false c9
      clear c9
      obtain ⟨c13, H⟩ := iteS H
      have c13b0 := eq_true c13
      have c13b1 := decide_eq_true c13
      try have c13b2 := eq_false (Nat.not_lt.2 c13)
      have H' := Aside0.mk H
      clear H
      obtain ⟨Ao14, co14, eo14⟩ := Kd.R_slice HO_3.out
      subst eo14
      have p403 : 0 ≤ (x5_1 : Int) := od_
      have q403 : x5_1 < (t400.length : Int) := od_
      obtain ⟨ad403, e403, hx403_0⟩ := Kd.at_string (Kd.R_reads' HO_3.out).2.2 x5_1 p403 q403
      cases e403
      replace p403 := eq_true p403
      replace q403 := eq_true q403
      go_wp2_with (first | ((with_reducible refine gc 27 rfl ?_); refine cl_ (some 22) Tryz.func27 (bulletinref23_Marks.calls k1 (rdOf ByteArray.empty t400 x5_1) t404 _ A8.out) ?_; rintro w' ⟨nd, rfl⟩; have p406 : 0 ≤ (x5_1 : Int) := od_; have q406 : x5_1 < (t400.length : Int) := od_; obtain ⟨ad406, e406, hx406_0⟩ := Kd.at_string (Kd.R_reads' HO_3.out).2.2 x5_1 p406 q406; obtain rfl : ad403 = ad406 := (by injection e406); replace p406 := eq_true p406; replace q406 := eq_true q406))
      go_roundg k1
      case measure => have := HK1.out; omega
      case rel => exact ⟨((x4_1 ++ (⟨#[13, 10]⟩ : ByteArray)) ++ (rdOf ByteArray.empty t400 x5_1)), (wrap64 (x5_1 + 1)), eqs, eqs, H', ⟨by have := HK1.out; omega⟩, ⟨by (with_reducible repeat (first | apply Kd.R_alloc | apply Kd.R_drewN | apply Kd.R_drew)); exact HO_3.out⟩, ⟨blw⟩⟩
    ·rw [if_neg c5] at H
     have c5b0 : decide (0 < x5_1) = false := decide_eq_false c5
     clear c5
     obtain ⟨c15, H⟩ := iteS H
     have c15b0 := decide_eq_true c15
     clear c15
     replace H := Option.bind_eq_some_iff.mp H
     obtain ⟨t408, A160, H⟩ := H
     try dsimp only at H
     have A16 := Aside0.mk A160
     clear A160
     by_cases c17 : t408 ≥ 0
     ·rw [if_pos c17] at H
      have c17b0 : decide (0 ≤ t408) = true := decide_eq_true c17
      clear c17
      obtain ⟨c18, H⟩ := iteS H
      have c18b0 := eq_true c18
      have c18b1 := decide_eq_true c18
      try have c18b2 := eq_false (Nat.not_lt.2 c18)
      obtain ⟨c19, H⟩ := iteS H
      have c19b0 := eq_true c19
      have c19b1 := decide_eq_true c19
      try have c19b2 := eq_false (Nat.not_lt.2 c19)
      have H' := Aside0.mk H
      clear H
      obtain ⟨Ao20, co20, eo20⟩ := Kd.R_slice HO_3.out
      subst eo20
      have p407 : 0 ≤ (x5_1 : Int) := od_
      have q407 : x5_1 < (t400.length : Int) := od_
      obtain ⟨ad407, e407, hx407_0⟩ := Kd.at_string (Kd.R_reads' HO_3.out).2.2 x5_1 p407 q407
      cases e407
      replace p407 := eq_true p407
      replace q407 := eq_true q407
      go_wp2_with (first | ((with_reducible refine gc 27 rfl ?_); refine cl_ (some 22) Tryz.func27 (bulletinref23_Marks.calls k1 (rdOf ByteArray.empty t400 x5_1) t408 _ A16.out) ?_; rintro w' ⟨nd, rfl⟩; have p409 : 0 ≤ (x5_1 : Int) := od_; have q409 : x5_1 < (t400.length : Int) := od_; obtain ⟨ad409, e409, hx409_0⟩ := Kd.at_string (Kd.R_reads' HO_3.out).2.2 x5_1 p409 q409; obtain rfl : ad407 = ad409 := (by injection e409); replace p409 := eq_true p409; replace q409 := eq_true q409))
      go_roundg k1
      case measure => have := HK1.out; omega
      case rel => exact ⟨((x4_1 ++ (⟨#[62]⟩ : ByteArray)) ++ (rdOf ByteArray.empty t400 x5_1)), (wrap64 (x5_1 + 1)), eqs, eqs, H', ⟨by have := HK1.out; omega⟩, ⟨by (with_reducible repeat (first | apply Kd.R_alloc | apply Kd.R_drewN | apply Kd.R_drew)); exact HO_3.out⟩, ⟨blw⟩⟩
     ·rw [if_neg c17] at H
      have c17b0 : decide (0 ≤ t408) = false := decide_eq_false c17
      clear c17
      obtain ⟨c21, H⟩ := iteS H
      have c21b0 := eq_true c21
      have c21b1 := decide_eq_true c21
      try have c21b2 := eq_false (Nat.not_lt.2 c21)
      have H' := Aside0.mk H
      clear H
      obtain ⟨Ao22, co22, eo22⟩ := Kd.R_slice HO_3.out
      subst eo22
      have p407 : 0 ≤ (x5_1 : Int) := od_
      have q407 : x5_1 < (t400.length : Int) := od_
      obtain ⟨ad407, e407, hx407_0⟩ := Kd.at_string (Kd.R_reads' HO_3.out).2.2 x5_1 p407 q407
      cases e407
      replace p407 := eq_true p407
      replace q407 := eq_true q407
      go_wp2_with (first | ((with_reducible refine gc 27 rfl ?_); refine cl_ (some 22) Tryz.func27 (bulletinref23_Marks.calls k1 (rdOf ByteArray.empty t400 x5_1) t408 _ A16.out) ?_; rintro w' ⟨nd, rfl⟩; have p410 : 0 ≤ (x5_1 : Int) := od_; have q410 : x5_1 < (t400.length : Int) := od_; obtain ⟨ad410, e410, hx410_0⟩ := Kd.at_string (Kd.R_reads' HO_3.out).2.2 x5_1 p410 q410; obtain rfl : ad407 = ad410 := (by injection e410); replace p410 := eq_true p410; replace q410 := eq_true q410))
      go_roundg k1
      case measure => have := HK1.out; omega
      case rel => exact ⟨(x4_1 ++ (rdOf ByteArray.empty t400 x5_1)), (wrap64 (x5_1 + 1)), eqs, eqs, H', ⟨by have := HK1.out; omega⟩, ⟨by (with_reducible repeat (first | apply Kd.R_alloc | apply Kd.R_drewN | apply Kd.R_drew)); exact HO_3.out⟩, ⟨blw⟩⟩
   ·rw [if_neg c4] at H
    have c4b0 := decide_eq_false c4
    clear c4
    obtain rfl := Option.some.inj H
    obtain ⟨Ao23, co23, eo23⟩ := Kd.R_slice HO_3.out
    subst eo23
    go_wp2
    go_ret
    exact ⟨by first | rfl | (simp [errW_none, errW_some] <;> rfl) | (simp [*, errW_none, errW_some] <;> rfl), blw⟩

/-! ### bulletinref13_Split: function 87 -/
def bulletinref13_Split.l0 : Nat → ByteArray → Int → List ByteArray → ByteArray → Int → Option (List ByteArray)
  | 0, _, _, _, _, _ => none
  | k + 1, x0, x1, x5, x6, x7 => if x7 < (x0.size : Int) then (if 0 ≤ x7 then (if (bt x0 x7) = x1 then (if x5.length < 8796093022208 then (bulletinref13_Split.l0 k x0 x1 (x5 ++ [x6]) (⟨#[]⟩ : ByteArray) (wrap64 (x7 + 1))) else (none)) else (if x7 ≤ (wrap64 (x7 + 1)) then (if (wrap64 (x7 + 1)) ≤ (x0.size : Int) then (if x6.size + ((x0.extract (x7 : Int).toNat ((wrap64 (x7 + 1)) : Int).toNat).size) ≤ 9223372036854775807 then (bulletinref13_Split.l0 k x0 x1 x5 (x6 ++ (x0.extract (x7 : Int).toNat ((wrap64 (x7 + 1)) : Int).toNat)) (wrap64 (x7 + 1))) else (none)) else (none)) else (none))) else (none)) else (if x5.length < 8796093022208 then (some (x5 ++ [x6])) else (none))
def bulletinref13_Split.f (k : Nat) (a0 : ByteArray) (a1 : Int) : Option (List ByteArray) := bulletinref13_Split.l0 k a0 a1 ([] : List ByteArray) (⟨#[]⟩ : ByteArray) 0
theorem bulletinref13_Split.mono_l : ∀ k, (∀ y0 y1 y2 y3 y4, LeO (bulletinref13_Split.l0 k y0 y1 y2 y3 y4) (bulletinref13_Split.l0 (k + 1) y0 y1 y2 y3 y4))
  | 0 => fun _ _ _ _ _ r h => by simp [bulletinref13_Split.l0] at h
  | k + 1 => by
    have ih0 := bulletinref13_Split.mono_l k
    · intro y0 y1 y2 y3 y4
      unfold bulletinref13_Split.l0
      repeat' first | (with_reducible first | exact ih0 _ _ _ _ _ | exact LeO.refl _ | exact LeO.none _ | refine LeO.ite ?_ ?_ | refine LeO.bind ?_ (fun _ => ?_)) | exact ih0 _ _ _ _ _ | exact LeO.none _ | refine LeO.ite ?_ ?_ | refine LeO.bind ?_ (fun _ => ?_)
theorem bulletinref13_Split.mono : ∀ a0 a1 k, LeO (bulletinref13_Split.f k a0 a1) (bulletinref13_Split.f (k + 1) a0 a1) := by
  intro a0 a1 k
  have ih0 := bulletinref13_Split.mono_l k
  unfold bulletinref13_Split.f
  repeat' first | (with_reducible first | exact ih0 _ _ _ _ _ | exact LeO.refl _ | exact LeO.none _ | refine LeO.ite ?_ ?_ | refine LeO.bind ?_ (fun _ => ?_)) | exact ih0 _ _ _ _ _ | exact LeO.none _ | refine LeO.ite ?_ ?_ | refine LeO.bind ?_ (fun _ => ?_)
set_option maxHeartbeats 8000000 in
set_option maxRecDepth 100000 in
theorem bulletinref13_Split.calls (k : Nat) (a0 : ByteArray) (a1 : Int) (r : List ByteArray) (w : World) (h : bulletinref13_Split.f k a0 a1 = some r) :
    Calls Tryz.prog 87 #[.string a0, .int .u8 a1] w fun e w' => ∃ v0_ : Value, e = .returned (v0_) ∧ Kd.R Kd.string 9 w' w.heap.size (fun _ => True) v0_ r ∧ Below w.heap.size w w' := by
 have HB := Aside0.mk (Below.refl w.heap.size w)
 unfold bulletinref13_Split.f at h
 have H := h
 clear h
 have H' := Aside0.mk H
 clear H
 go_enter Tryz.func87, Tryz.ntmps87
 go_wp2
 go_loopg [5, 6, 7] k (fun kq v5 v6 v7 w' => ∃ (x5_1 : List ByteArray) (x6_1 : ByteArray) (x7_1 : Int), v6 = .string x6_1 ∧ v7 = .int .i64 x7_1 ∧ Aside0 (bulletinref13_Split.l0 kq a0 a1 x5_1 x6_1 x7_1 = some r) ∧ Aside0 (kq ≤ k) ∧ Aside0 (Kd.R Kd.string 9 w' w.heap.size (fun _ => True) v5 x5_1) ∧ Aside0 (Below w.heap.size w w'))
 case atStart => exact ⟨(([] : List ByteArray)), ((⟨#[]⟩ : ByteArray)), (0), eqs, eqs, H', ⟨Nat.le_refl _⟩, ⟨by first | exact Kd.R_nil _ _ _ _ _ | exact Kd.N_nil _ _ _ _ _ | exact Kd.V_nil _ _ _ _ _ | exact Kd.Q_nil _ _ _ _ _ | exact Kd.S_nil _ _ _ _ _⟩, ⟨blw⟩⟩
 case round =>
  clear H'
  try clear p2
  obtain ⟨x5_1, x6_1, x7_1, rfl, rfl, HA, HK1, HO_5, HB⟩ := hrel
  cases gk with
  | zero => exact absurd HA.out (by simp [bulletinref13_Split.l0])
  | succ k1 =>
   have H := HA.out
   clear HA
   simp only [bulletinref13_Split.l0] at H
   by_cases c3 : x7_1 < (a0.size : Int)
   ·rw [if_pos c3] at H
    have c3b0 := decide_eq_true c3
    clear c3
    obtain ⟨c4, H⟩ := iteS H
    have c4b0 := decide_eq_true c4
    clear c4
    by_cases c6 : (bt a0 x7_1) = a1
    ·rw [if_pos c6] at H
     have c6b0 := beq_iff_eq.mpr c6
     have c6b1 := bne_eq_false_iff_eq.mpr c6
     clear c6
     obtain ⟨c7, H⟩ := iteS H
     have LMc7 := Aside0.mk c7
     clear c7
     obtain ⟨y411, hy411⟩ : ∃ y_ : List ByteArray, y_ = (x5_1 ++ [x6_1]) := ⟨_, rfl⟩
     replace H : (bulletinref13_Split.l0 k1 a0 a1 y411 (⟨#[]⟩ : ByteArray) (wrap64 (x7_1 + 1))) = some r := by first | (rw [hy411]; with_reducible exact H) | (have H2_ := (Option.bind_some _ _).symm.trans H; rw [hy411]; with_reducible exact H2_) | (have H2_ := (Option.bind_some _ _).symm.trans H; with_reducible exact H2_) | with_reducible exact H | (rw [hy411]; exact H) | exact H
     have Ny411 := Aside0.mk hy411
     clear hy411
     have H' := Aside0.mk H
     clear H
     have p5 : 0 ≤ (x7_1 : Int) := od_
     have q5 : x7_1 < (a0.size : Int) := od_
     have hx5 := bt_at a0 x7_1
     replace p5 := eq_true p5
     replace q5 := eq_true q5
     go_wp2_with (first | ((with_reducible refine gate_builtin (b := .append) (xs := #[.tmp 19, .tmp 21]) rfl ?_); at_builtin; refine Kd.R_append Kd.string (w0 := w) w.heap.size rfl (.tmp 19) (.tmp 21) 47 9 (.string ⟨#[]⟩) 16 rfl Tryz.underlying47 info9 rfl (by decide) (by omega) u5 x5_1 x6_1 [.string x6_1] (fun _ => True) (fun _ => False) rfl rfl ?aP (fun _ hk => hk.elim) ?aF ?aO ?aB ?aS ?aL ?_; (case aP => exact rfl); (case aB => exact blw); (case aF => exact (fun _ _ => trivial)); (case aO => exact (by (with_reducible repeat (first | apply Kd.R_alloc | apply Kd.R_drewN | apply Kd.R_drew)); exact HO_5.out)); (case aS => exact (below_size blw)); (case aL => have := LMc7.out; omega); intro v412 w8 ho hb hg hat; rw [← Ny411.out] at ho; have n0_ := Aside0.mk (hb); have n1_ := Aside0.mk (ho); clear HB; clear HO_5; have HB := n0_; have HO413 := n1_; clear n0_ n1_; clear ho hb hg hat))
     go_roundg k1
     case measure => have := HK1.out; omega
     case rel => exact ⟨(y411), ((⟨#[]⟩ : ByteArray)), (wrap64 (x7_1 + 1)), eqs, eqs, H', ⟨by have := HK1.out; omega⟩, ⟨by (with_reducible repeat (first | apply Kd.R_alloc | apply Kd.R_drewN | apply Kd.R_drew)); exact HO413.out⟩, ⟨blw⟩⟩
    ·rw [if_neg c6] at H
     have c6b0 := beq_eq_false_iff_ne.mpr c6
     have c6b1 := bne_iff_ne.mpr c6
     have c9b0 := eq_true (od_ : 0 ≤ x7_1)
     obtain ⟨c10, H⟩ := iteS H
     have c10b0 := eq_true c10
     have c10b1 := decide_eq_true c10
     obtain ⟨c11, H⟩ := iteS H
     have c11b0 := eq_true c11
     have c11b1 := decide_eq_true c11
     obtain ⟨c12, H⟩ := iteS H
     have c12b0 := eq_true c12
     have c12b1 := decide_eq_true c12
     (try (have c12x := c12; simp only [ByteArray.size_extract, Nat.min_self] at c12x; have c12xb0 := eq_true c12x; have c12xb1 := decide_eq_true c12x; (try have c12xb2 := eq_false (Nat.not_lt.2 c12x)); clear c12x))
     try have c12b2 := eq_false (Nat.not_lt.2 c12)
     have H' := Aside0.mk H
     clear H
     have p5 : 0 ≤ (x7_1 : Int) := od_
     have q5 : x7_1 < (a0.size : Int) := od_
     have hx5 := bt_at a0 x7_1
     replace p5 := eq_true p5
     replace q5 := eq_true q5
     go_wp2
     go_roundg k1
     case measure => have := HK1.out; omega
     case rel => exact ⟨(x5_1), (x6_1 ++ (a0.extract (x7_1 : Int).toNat ((wrap64 (x7_1 + 1)) : Int).toNat)), (wrap64 (x7_1 + 1)), eqs, eqs, H', ⟨by have := HK1.out; omega⟩, ⟨by (with_reducible repeat (first | apply Kd.R_alloc | apply Kd.R_drewN | apply Kd.R_drew)); exact HO_5.out⟩, ⟨blw⟩⟩
   ·rw [if_neg c3] at H
    have c3b0 := decide_eq_false c3
    clear c3
    obtain ⟨c13, H⟩ := iteS H
    have LMc13 := Aside0.mk c13
    clear c13
    obtain ⟨y414, hy414⟩ : ∃ y_ : List ByteArray, y_ = (x5_1 ++ [x6_1]) := ⟨_, rfl⟩
    replace H : (some y414) = some r := by first | (rw [hy414]; with_reducible exact H) | (have H2_ := (Option.bind_some _ _).symm.trans H; rw [hy414]; with_reducible exact H2_) | (have H2_ := (Option.bind_some _ _).symm.trans H; with_reducible exact H2_) | with_reducible exact H | (rw [hy414]; exact H) | exact H
    have Ny414 := Aside0.mk hy414
    clear hy414
    obtain rfl := Option.some.inj H
    go_wp2_with (first | ((with_reducible refine gate_builtin (b := .append) (xs := #[.tmp 30, .tmp 32]) rfl ?_); at_builtin; refine Kd.R_append Kd.string (w0 := w) w.heap.size rfl (.tmp 30) (.tmp 32) 47 9 (.string ⟨#[]⟩) 16 rfl Tryz.underlying47 info9 rfl (by decide) (by omega) u5 x5_1 x6_1 [.string x6_1] (fun _ => True) (fun _ => False) rfl rfl ?aP (fun _ hk => hk.elim) ?aF ?aO ?aB ?aS ?aL ?_; (case aP => exact rfl); (case aB => exact blw); (case aF => exact (fun _ _ => trivial)); (case aO => exact (by (with_reducible repeat (first | apply Kd.R_alloc | apply Kd.R_drewN | apply Kd.R_drew)); exact HO_5.out)); (case aS => exact (below_size blw)); (case aL => have := LMc13.out; omega); intro v415 w14 ho hb hg hat; rw [← Ny414.out] at ho; have n0_ := Aside0.mk (hb); have n1_ := Aside0.mk (ho); clear HB; clear HO_5; have HB := n0_; have HO416 := n1_; clear n0_ n1_; clear ho hb hg hat))
    go_ret
    exact ⟨_, by first | rfl | (simp [errW_none, errW_some] <;> rfl) | (simp [*, errW_none, errW_some] <;> rfl), by (with_reducible repeat (first | apply Kd.R_alloc | apply Kd.R_drewN | apply Kd.R_drew)); exact HO416.out, blw⟩

/-! ### bulletinref12_among: function 131 -/
def bulletinref12_among.l0 : Nat → Int → ByteArray → Int → Option (Bool)
  | 0, _, _, _ => none
  | k + 1, x0, x1, x5 => if x5 < (x1.size : Int) then (if 0 ≤ x5 then (if (bt x1 x5) = x0 then (some true) else (bulletinref12_among.l0 k x0 x1 (wrap64 (x5 + 1)))) else (none)) else (some false)
def bulletinref12_among.f (k : Nat) (a0 : Int) (a1 : ByteArray) : Option (Bool) := bulletinref12_among.l0 k a0 a1 0
theorem bulletinref12_among.mono_l : ∀ k, (∀ y0 y1 y2, LeO (bulletinref12_among.l0 k y0 y1 y2) (bulletinref12_among.l0 (k + 1) y0 y1 y2))
  | 0 => fun _ _ _ r h => by simp [bulletinref12_among.l0] at h
  | k + 1 => by
    have ih0 := bulletinref12_among.mono_l k
    · intro y0 y1 y2
      unfold bulletinref12_among.l0
      repeat' first | (with_reducible first | exact ih0 _ _ _ | exact LeO.refl _ | exact LeO.none _ | refine LeO.ite ?_ ?_ | refine LeO.bind ?_ (fun _ => ?_)) | exact ih0 _ _ _ | exact LeO.none _ | refine LeO.ite ?_ ?_ | refine LeO.bind ?_ (fun _ => ?_)
theorem bulletinref12_among.mono : ∀ a0 a1 k, LeO (bulletinref12_among.f k a0 a1) (bulletinref12_among.f (k + 1) a0 a1) := by
  intro a0 a1 k
  have ih0 := bulletinref12_among.mono_l k
  unfold bulletinref12_among.f
  repeat' first | (with_reducible first | exact ih0 _ _ _ | exact LeO.refl _ | exact LeO.none _ | refine LeO.ite ?_ ?_ | refine LeO.bind ?_ (fun _ => ?_)) | exact ih0 _ _ _ | exact LeO.none _ | refine LeO.ite ?_ ?_ | refine LeO.bind ?_ (fun _ => ?_)
set_option maxHeartbeats 8000000 in
set_option maxRecDepth 100000 in
theorem bulletinref12_among.calls (k : Nat) (a0 : Int) (a1 : ByteArray) (r : Bool) (w : World) (h : bulletinref12_among.f k a0 a1 = some r) :
    Calls Tryz.prog 131 #[.int .u8 a0, .string a1] w fun e w' => e = .returned (.bool r) ∧ Drawn0 w w' := by
 unfold bulletinref12_among.f at h
 have H := h
 clear h
 have H' := Aside0.mk H
 clear H
 go_enter Tryz.func131, Tryz.ntmps131
 go_wp2
 go_loopg [5] k (fun kq v5 w' => ∃ (x5_1 : Int), v5 = .int .i64 x5_1 ∧ Aside0 (bulletinref12_among.l0 kq a0 a1 x5_1 = some r) ∧ Aside0 (kq ≤ k) ∧ Drawn0 w w')
 case atStart => exact ⟨(0), eqs, H', ⟨Nat.le_refl _⟩, drw⟩
 case round =>
  clear H'
  try clear c1
  try clear p2
  obtain ⟨x5_1, rfl, HA, HK1, ⟨m1, rfl⟩⟩ := hrel
  cases gk with
  | zero => exact absurd HA.out (by simp [bulletinref12_among.l0])
  | succ k1 =>
   have H := HA.out
   clear HA
   simp only [bulletinref12_among.l0] at H
   by_cases c3 : x5_1 < (a1.size : Int)
   ·rw [if_pos c3] at H
    have c3b0 := decide_eq_true c3
    clear c3
    obtain ⟨c4, H⟩ := iteS H
    have c4b0 := decide_eq_true c4
    clear c4
    by_cases c6 : (bt a1 x5_1) = a0
    ·rw [if_pos c6] at H
     have c6b0 := beq_iff_eq.mpr c6
     have c6b1 := bne_eq_false_iff_eq.mpr c6
     clear c6
     obtain rfl := Option.some.inj H
     have p5 : 0 ≤ (x5_1 : Int) := od_
     have q5 : x5_1 < (a1.size : Int) := od_
     have hx5 := bt_at a1 x5_1
     replace p5 := eq_true p5
     replace q5 := eq_true q5
     go_wp2
     go_ret
     exact ⟨eqs, drw⟩
    ·rw [if_neg c6] at H
     have c6b0 := beq_eq_false_iff_ne.mpr c6
     have c6b1 := bne_iff_ne.mpr c6
     have H' := Aside0.mk H
     clear H
     have p5 : 0 ≤ (x5_1 : Int) := od_
     have q5 : x5_1 < (a1.size : Int) := od_
     have hx5 := bt_at a1 x5_1
     replace p5 := eq_true p5
     replace q5 := eq_true q5
     go_wp2
     go_roundg k1
     case measure => have := HK1.out; omega
     case rel => exact ⟨(wrap64 (x5_1 + 1)), eqs, H', ⟨by have := HK1.out; omega⟩, drw⟩
   ·rw [if_neg c3] at H
    have c3b0 := decide_eq_false c3
    clear c3
    obtain rfl := Option.some.inj H
    go_wp2
    go_ret
    exact ⟨eqs, drw⟩

/-! ### bulletinref12_atomic: function 118 -/
def bulletinref12_atomic.f (k : Nat) (a0 : Int) : Option (Bool) := if a0 > 127 then (some true) else (if a0 > 32 then (if a0 < 127 then ((bulletinref12_among.f k a0 (⟨#[40, 41, 60, 62, 91, 93, 58, 59, 64, 44, 46, 92, 34]⟩ : ByteArray)).bind fun t417 => (some (!t417))) else (some false)) else (some false))
theorem bulletinref12_atomic.mono : ∀ a0 k, LeO (bulletinref12_atomic.f k a0) (bulletinref12_atomic.f (k + 1) a0) := by
  intro a0 k
  unfold bulletinref12_atomic.f
  repeat' first | (with_reducible first | exact bulletinref12_among.mono _ _ _ | exact LeO.refl _ | exact LeO.none _ | refine LeO.ite ?_ ?_ | refine LeO.bind ?_ (fun _ => ?_)) | exact bulletinref12_among.mono _ _ _ | exact LeO.none _ | refine LeO.ite ?_ ?_ | refine LeO.bind ?_ (fun _ => ?_)
set_option maxHeartbeats 8000000 in
set_option maxRecDepth 100000 in
theorem bulletinref12_atomic.calls (k : Nat) (a0 : Int) (r : Bool) (w : World) (h : bulletinref12_atomic.f k a0 = some r) :
    Calls Tryz.prog 118 #[.int .u8 a0] w fun e w' => e = .returned (.bool r) ∧ Drawn0 w w' := by
 unfold bulletinref12_atomic.f at h
 have H := h
 clear h
 by_cases c2 : a0 > 127
 ·rw [if_pos c2] at H
  have c2b0 : decide (127 < a0) = true := decide_eq_true c2
  clear c2
  obtain rfl := Option.some.inj H
  go_enter Tryz.func118, Tryz.ntmps118
  go_wp2
  go_ret
  exact ⟨eqs, drw⟩
 ·rw [if_neg c2] at H
  have c2b0 : decide (127 < a0) = false := decide_eq_false c2
  clear c2
  by_cases c3 : a0 > 32
  ·rw [if_pos c3] at H
   have c3b0 : decide (32 < a0) = true := decide_eq_true c3
   clear c3
   by_cases c4 : a0 < 127
   ·rw [if_pos c4] at H
    have c4b0 := decide_eq_true c4
    clear c4
    replace H := Option.bind_eq_some_iff.mp H
    obtain ⟨t417, A50, H⟩ := H
    try dsimp only at H
    have A5 := Aside0.mk A50
    clear A50
    obtain rfl := Option.some.inj H
    go_enter Tryz.func118, Tryz.ntmps118
    go_wp2_with (first | (go_at_call 131; (with_reducible refine (bulletinref12_among.calls k a0 (⟨#[40, 41, 60, 62, 91, 93, 58, 59, 64, 44, 46, 92, 34]⟩ : ByteArray) t417 _ A5.out).mono ?_); rintro e w' ⟨rfl, ⟨nd, rfl⟩⟩))
    go_ret
    exact ⟨eqs, drw⟩
   ·rw [if_neg c4] at H
    have c4b0 := decide_eq_false c4
    clear c4
    obtain rfl := Option.some.inj H
    go_enter Tryz.func118, Tryz.ntmps118
    go_wp2
    go_ret
    exact ⟨eqs, drw⟩
  ·rw [if_neg c3] at H
   have c3b0 : decide (32 < a0) = false := decide_eq_false c3
   clear c3
   obtain rfl := Option.some.inj H
   go_enter Tryz.func118, Tryz.ntmps118
   go_wp2
   go_ret
   exact ⟨eqs, drw⟩

/-! ### bulletinref12_IsAtom: function 88 -/
def bulletinref12_IsAtom.l0 : Nat → ByteArray → Int → Option (Bool)
  | 0, _, _ => none
  | k + 1, x0, x3 => if x3 < (x0.size : Int) then (if 0 ≤ x3 then ((bulletinref12_atomic.f k (bt x0 x3)).bind fun t418 => (if t418 = true then (bulletinref12_IsAtom.l0 k x0 (wrap64 (x3 + 1))) else (some false))) else (none)) else (some true)
def bulletinref12_IsAtom.f (k : Nat) (a0 : ByteArray) : Option (Bool) := if a0.toList = ([] : List UInt8) then (some false) else (bulletinref12_IsAtom.l0 k a0 0)
theorem bulletinref12_IsAtom.mono_l : ∀ k, (∀ y0 y1, LeO (bulletinref12_IsAtom.l0 k y0 y1) (bulletinref12_IsAtom.l0 (k + 1) y0 y1))
  | 0 => fun _ _ r h => by simp [bulletinref12_IsAtom.l0] at h
  | k + 1 => by
    have ih0 := bulletinref12_IsAtom.mono_l k
    · intro y0 y1
      unfold bulletinref12_IsAtom.l0
      repeat' first | (with_reducible first | exact ih0 _ _ | exact bulletinref12_atomic.mono _ _ | exact LeO.refl _ | exact LeO.none _ | refine LeO.ite ?_ ?_ | refine LeO.bind ?_ (fun _ => ?_)) | exact ih0 _ _ | exact bulletinref12_atomic.mono _ _ | exact LeO.none _ | refine LeO.ite ?_ ?_ | refine LeO.bind ?_ (fun _ => ?_)
theorem bulletinref12_IsAtom.mono : ∀ a0 k, LeO (bulletinref12_IsAtom.f k a0) (bulletinref12_IsAtom.f (k + 1) a0) := by
  intro a0 k
  have ih0 := bulletinref12_IsAtom.mono_l k
  unfold bulletinref12_IsAtom.f
  repeat' first | (with_reducible first | exact ih0 _ _ | exact bulletinref12_atomic.mono _ _ | exact LeO.refl _ | exact LeO.none _ | refine LeO.ite ?_ ?_ | refine LeO.bind ?_ (fun _ => ?_)) | exact ih0 _ _ | exact bulletinref12_atomic.mono _ _ | exact LeO.none _ | refine LeO.ite ?_ ?_ | refine LeO.bind ?_ (fun _ => ?_)
set_option maxHeartbeats 8000000 in
set_option maxRecDepth 100000 in
theorem bulletinref12_IsAtom.calls (k : Nat) (a0 : ByteArray) (r : Bool) (w : World) (h : bulletinref12_IsAtom.f k a0 = some r) :
    Calls Tryz.prog 88 #[.string a0] w fun e w' => e = .returned (.bool r) ∧ Drawn0 w w' := by
 unfold bulletinref12_IsAtom.f at h
 have H := h
 clear h
 by_cases c2 : a0.toList = ([] : List UInt8)
 ·rw [if_pos c2] at H
  have c2b0 := beq_iff_eq.mpr c2
  have c2b1 := bne_eq_false_iff_eq.mpr c2
  clear c2
  obtain rfl := Option.some.inj H
  go_enter Tryz.func88, Tryz.ntmps88
  go_wp2
  go_ret
  exact ⟨by first | rfl | (simp; done) | (simp [*]; done) | (simp; exact (by intro l_; cases l_ <;> rfl : ∀ l_ : List UInt8, l_.isEmpty = !(l_ != [])) _), drw⟩
 ·rw [if_neg c2] at H
  have c2b0 := beq_eq_false_iff_ne.mpr c2
  have c2b1 := bne_iff_ne.mpr c2
  have H' := Aside0.mk H
  clear H
  go_enter Tryz.func88, Tryz.ntmps88
  go_wp2
  go_loopg [3] k (fun kq v3 w' => ∃ (x3_1 : Int), v3 = .int .i64 x3_1 ∧ Aside0 (bulletinref12_IsAtom.l0 kq a0 x3_1 = some r) ∧ Aside0 (kq ≤ k) ∧ Drawn0 w w')
  case atStart => exact ⟨(0), (by first | rfl | (simp; done) | (simp [*]; done) | (simp; exact (by intro l_; cases l_ <;> rfl : ∀ l_ : List UInt8, l_.isEmpty = !(l_ != [])) _)), H', ⟨Nat.le_refl _⟩, drw⟩
  case round =>
   clear H'
   try clear c2
   try clear c2b0
   try clear c2b1
   try clear p2
   obtain ⟨x3_1, rfl, HA, HK1, ⟨m1, rfl⟩⟩ := hrel
   cases gk with
   | zero => exact absurd HA.out (by simp [bulletinref12_IsAtom.l0])
   | succ k1 =>
    have H := HA.out
    clear HA
    simp only [bulletinref12_IsAtom.l0] at H
    by_cases c3 : x3_1 < (a0.size : Int)
    ·rw [if_pos c3] at H
     have c3b0 := decide_eq_true c3
     clear c3
     obtain ⟨c4, H⟩ := iteS H
     have c4b0 := decide_eq_true c4
     clear c4
     replace H := Option.bind_eq_some_iff.mp H
     obtain ⟨t418, A60, H⟩ := H
     try dsimp only at H
     have A6 := Aside0.mk A60
     clear A60
     by_cases c7 : t418 = true
     ·subst c7
      rw [if_pos rfl] at H
      have H' := Aside0.mk H
      clear H
      have p5 : 0 ≤ (x3_1 : Int) := od_
      have q5 : x3_1 < (a0.size : Int) := od_
      have hx5 := bt_at a0 x3_1
      replace p5 := eq_true p5
      replace q5 := eq_true q5
      go_wp2_with (first | ((with_reducible refine gc 118 rfl ?_); refine cl_ (some 15) Tryz.func118 (bulletinref12_atomic.calls k1 (bt a0 x3_1) true _ A6.out) ?_; rintro w' ⟨nd, rfl⟩))
      go_roundg k1
      case measure => have := HK1.out; omega
      case rel => exact ⟨(wrap64 (x3_1 + 1)), (by first | rfl | (simp; done) | (simp [*]; done) | (simp; exact (by intro l_; cases l_ <;> rfl : ∀ l_ : List UInt8, l_.isEmpty = !(l_ != [])) _)), H', ⟨by have := HK1.out; omega⟩, drw⟩
     ·replace c7 := Bool.eq_false_iff.mpr c7
      subst c7
      rw [if_neg nft] at H
      obtain rfl := Option.some.inj H
      have p5 : 0 ≤ (x3_1 : Int) := od_
      have q5 : x3_1 < (a0.size : Int) := od_
      have hx5 := bt_at a0 x3_1
      replace p5 := eq_true p5
      replace q5 := eq_true q5
      go_wp2_with (first | ((with_reducible refine gc 118 rfl ?_); refine cl_ (some 15) Tryz.func118 (bulletinref12_atomic.calls k1 (bt a0 x3_1) false _ A6.out) ?_; rintro w' ⟨nd, rfl⟩))
      go_ret
      exact ⟨by first | rfl | (simp; done) | (simp [*]; done) | (simp; exact (by intro l_; cases l_ <;> rfl : ∀ l_ : List UInt8, l_.isEmpty = !(l_ != [])) _), drw⟩
    ·rw [if_neg c3] at H
     have c3b0 := decide_eq_false c3
     clear c3
     obtain rfl := Option.some.inj H
     go_wp2
     go_ret
     exact ⟨by first | rfl | (simp; done) | (simp [*]; done) | (simp; exact (by intro l_; cases l_ <;> rfl : ∀ l_ : List UInt8, l_.isEmpty = !(l_ != [])) _), drw⟩

end Go.Proofs.YtcpmoolpbeeedaaGreatDoor.Q
