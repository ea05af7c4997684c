-- Written by a program of this session (wip/myprint) out of the translation, for YtcpmoolpbeeedaaGreatDoor.
import Derived.Test.YtcpmoolpbeeedaaGreatDoorQ0
import Derived.Test.YtcpmoolpbeeedaaGreatDoorQ22
import Derived.Test.YtcpmoolpbeeedaaGreatDoorQ22c
import Derived.Test.YtcpmoolpbeeedaaGreatDoorQ22d
namespace Go.Proofs.YtcpmoolpbeeedaaGreatDoor.Q
open Go.RowKit Go.Proofs.YtcpmoolpbeeedaaGreatDoorW.PrintWords Go.Proofs.YtcpmoolpbeeedaaGreatDoorW.PrintLast Go.Proofs.YtcpmoolpbeeedaaGreatDoorW.PrintMore Go.Proofs.YtcpmoolpbeeedaaGreatDoorW.PrintSq
attribute [local go_sem] max2_int min2_int max_two min_two max_three min_three max_four min_four   -- for this text's walks alone
set_option linter.unusedVariables false
set_option linter.unusedSimpArgs false

/-! ### bulletinref23_Unquote: function 13 -/
def bulletinref23_Unquote.l0 : Nat → List ByteArray → ByteArray → Int → Option (ByteArray)
  | 0, _, _, _ => none
  | k + 1, x3, x4, x5 => if x5 < (x3.length : Int) then (if x5 > 0 then (if x4.size + 2 ≤ 9223372036854775807 then (if 0 ≤ x5 then ((bulletinref23_Marks.f k (rdOf ByteArray.empty x3 x5)).bind fun t410 => (if t410 ≥ 1 then (if 1 ≤ ((rdOf ByteArray.empty x3 x5).size : Int) then (if x4.size + 2 + ((rdOf ByteArray.empty x3 x5).extract 1 (rdOf ByteArray.empty x3 x5).size).size ≤ 9223372036854775807 then (bulletinref23_Unquote.l0 k x3 ((x4 ++ (⟨#[13, 10]⟩ : ByteArray)) ++ ((rdOf ByteArray.empty x3 x5).extract 1 (rdOf ByteArray.empty x3 x5).size)) (wrap64 (x5 + 1))) else (none)) else (none)) else (if x4.size + 2 + (rdOf ByteArray.empty x3 x5).size ≤ 9223372036854775807 then (bulletinref23_Unquote.l0 k x3 ((x4 ++ (⟨#[13, 10]⟩ : ByteArray)) ++ (rdOf ByteArray.empty x3 x5)) (wrap64 (x5 + 1))) else (none)))) else (none)) else (none)) else (if 0 ≤ x5 then ((bulletinref23_Marks.f k (rdOf ByteArray.empty x3 x5)).bind fun t414 => (if t414 ≥ 1 then (if 1 ≤ ((rdOf ByteArray.empty x3 x5).size : Int) then (if x4.size + ((rdOf ByteArray.empty x3 x5).extract 1 (rdOf ByteArray.empty x3 x5).size).size ≤ 9223372036854775807 then (bulletinref23_Unquote.l0 k x3 (x4 ++ ((rdOf ByteArray.empty x3 x5).extract 1 (rdOf ByteArray.empty x3 x5).size)) (wrap64 (x5 + 1))) else (none)) else (none)) else (if x4.size + (rdOf ByteArray.empty x3 x5).size ≤ 9223372036854775807 then (bulletinref23_Unquote.l0 k x3 (x4 ++ (rdOf ByteArray.empty x3 x5)) (wrap64 (x5 + 1))) else (none)))) else (none))) else (some x4)
def bulletinref23_Unquote.f (k : Nat) (a0 : ByteArray) : Option (ByteArray) := (bulletinref17_Lines.f k a0).bind fun t406 => (bulletinref23_Unquote.l0 k t406 (⟨#[]⟩ : ByteArray) 0)
theorem bulletinref23_Unquote.mono_l : ∀ k, (∀ y0 y1 y2, LeO (bulletinref23_Unquote.l0 k y0 y1 y2) (bulletinref23_Unquote.l0 (k + 1) y0 y1 y2))
  | 0 => fun _ _ _ r h => by simp [bulletinref23_Unquote.l0] at h
  | k + 1 => by
    have ih0 := bulletinref23_Unquote.mono_l k
    · intro y0 y1 y2
      unfold bulletinref23_Unquote.l0
      repeat' first | (with_reducible first | exact ih0 _ _ _ | exact bulletinref17_Lines.mono _ _ | exact bulletinref23_Marks.mono _ _ | exact LeO.refl _ | exact LeO.none _ | refine LeO.ite ?_ ?_ | refine LeO.bind ?_ (fun _ => ?_)) | exact ih0 _ _ _ | exact bulletinref17_Lines.mono _ _ | exact bulletinref23_Marks.mono _ _ | exact LeO.none _ | refine LeO.ite ?_ ?_ | refine LeO.bind ?_ (fun _ => ?_)
theorem bulletinref23_Unquote.mono : ∀ a0 k, LeO (bulletinref23_Unquote.f k a0) (bulletinref23_Unquote.f (k + 1) a0) := by
  intro a0 k
  have ih0 := bulletinref23_Unquote.mono_l k
  unfold bulletinref23_Unquote.f
  repeat' first | (with_reducible first | exact ih0 _ _ _ | exact bulletinref17_Lines.mono _ _ | exact bulletinref23_Marks.mono _ _ | exact LeO.refl _ | exact LeO.none _ | refine LeO.ite ?_ ?_ | refine LeO.bind ?_ (fun _ => ?_)) | exact ih0 _ _ _ | exact bulletinref17_Lines.mono _ _ | exact bulletinref23_Marks.mono _ _ | exact LeO.none _ | refine LeO.ite ?_ ?_ | refine LeO.bind ?_ (fun _ => ?_)
set_option maxHeartbeats 8000000 in
set_option maxRecDepth 100000 in
theorem bulletinref23_Unquote.calls (k : Nat) (a0 : ByteArray) (r : ByteArray) (w : World) (h : bulletinref23_Unquote.f k a0 = some r) :
    Calls Tryz.prog 13 #[.string a0] w fun e w' => e = .returned (.string r) ∧ Below w.heap.size w w' := by
 have HB := Aside0.mk (Below.refl w.heap.size w)
 unfold bulletinref23_Unquote.f at h
 have H := h
 clear h
 replace H := Option.bind_eq_some_iff.mp H
 obtain ⟨t406, A20, H⟩ := H
 try dsimp only at H
 have A2 := Aside0.mk A20
 clear A20
 have H' := Aside0.mk H
 clear H
 go_enter Tryz.func13, Tryz.ntmps13
 go_wp2_with (first | ((with_reducible refine gc 26 rfl ?_); refine gl_ (some 7) Tryz.func26 #[.string a0] ?_; (with_reducible refine (bulletinref17_Lines.calls k a0 t406 _ A2.out).mono ?_); rintro e w3 ⟨v407, rfl, ho0, hb⟩; refine ⟨_, rfl, ?_⟩; have HO408 := Aside0.mk (Kd.R_lower ho0 (below_size blw)); replace HB := Aside0.mk (below_step blw hb); (try clear hb); (try clear ho0)))
 go_loopg [4, 5] k (fun kq v4 v5 w' => ∃ (x4_1 : ByteArray) (x5_1 : Int), v4 = .string x4_1 ∧ v5 = .int .i64 x5_1 ∧ Aside0 (bulletinref23_Unquote.l0 kq t406 x4_1 x5_1 = some r) ∧ Aside0 (kq ≤ k) ∧ Aside0 (Kd.R Kd.string 9 w' w.heap.size (fun _ => True) v407 t406) ∧ Aside0 (Below w.heap.size w w'))
 case atStart => exact ⟨((⟨#[]⟩ : ByteArray)), (0), eqs, eqs, H', ⟨Nat.le_refl _⟩, ⟨by (with_reducible repeat (first | apply Kd.R_alloc | apply Kd.R_drewN | apply Kd.R_drew)); exact HO408.out⟩, ⟨blw⟩⟩
 case round =>
  clear H'
  try clear c1
  try clear c2
  try clear p2
  obtain ⟨x4_1, x5_1, rfl, rfl, HA, HK1, HO_3, HB⟩ := hrel
  cases gk with
  | zero => exact absurd HA.out (by simp [bulletinref23_Unquote.l0])
  | succ k1 =>
   have H := HA.out
   clear HA
   simp only [bulletinref23_Unquote.l0] at H
   by_cases c4 : x5_1 < (t406.length : Int)
   ·rw [if_pos c4] at H
    have c4b0 := decide_eq_true c4
    clear c4
    by_cases c5 : x5_1 > 0
    ·rw [if_pos c5] at H
     have c5b0 : decide (0 < x5_1) = true := decide_eq_true c5
     clear c5
     obtain ⟨c6, H⟩ := iteS H
     have c6b0 := eq_true c6
     have c6b1 := decide_eq_true c6
     try have c6b2 := eq_false (Nat.not_lt.2 c6)
     obtain ⟨c7, H⟩ := iteS H
     have c7b0 := decide_eq_true c7
     clear c7
     replace H := Option.bind_eq_some_iff.mp H
     obtain ⟨t410, A80, H⟩ := H
     try dsimp only at H
     have A8 := Aside0.mk A80
     clear A80
     by_cases c9 : t410 ≥ 1
     ·rw [if_pos c9] at H
      have c9b0 : decide (1 ≤ t410) = true := decide_eq_true c9
      clear c9
      obtain ⟨c10, H⟩ := iteS H
      have c10b0 := eq_true c10
      have c10b1 := decide_eq_true c10
      clear c10
      obtain ⟨c11, H⟩ := iteS H
      have c11b0 := eq_true c11
      have c11b1 := decide_eq_true c11
      (try (have c11x := c11; simp only [ByteArray.size_extract, Nat.min_self] at c11x; have c11xb0 := eq_true c11x; have c11xb1 := decide_eq_true c11x; (try have c11xb2 := eq_false (Nat.not_lt.2 c11x)); clear c11x))
      try have c11b2 := eq_false (Nat.not_lt.2 c11)
      have H' := Aside0.mk H
      clear H
      obtain ⟨Ao12, co12, eo12⟩ := Kd.R_slice HO_3.out
      subst eo12
      have p409 : 0 ≤ (x5_1 : Int) := od_
      have q409 : x5_1 < (t406.length : Int) := od_
      obtain ⟨ad409, e409, hx409_0⟩ := Kd.at_string (Kd.R_reads' HO_3.out).2.2 x5_1 p409 q409
      cases e409
      replace p409 := eq_true p409
      replace q409 := eq_true q409
      go_wp2_with (first | ((with_reducible refine gc 27 rfl ?_); refine cl_ (some 22) Tryz.func27 (bulletinref23_Marks.calls k1 (rdOf ByteArray.empty t406 x5_1) t410 _ A8.out) ?_; rintro w' ⟨nd, rfl⟩; have p411 : 0 ≤ (x5_1 : Int) := od_; have q411 : x5_1 < (t406.length : Int) := od_; obtain ⟨ad411, e411, hx411_0⟩ := Kd.at_string (Kd.R_reads' HO_3.out).2.2 x5_1 p411 q411; obtain rfl : ad409 = ad411 := (by injection e411); replace p411 := eq_true p411; replace q411 := eq_true q411))
      go_roundg k1
      case measure => have := HK1.out; omega
      case rel => exact ⟨((x4_1 ++ (⟨#[13, 10]⟩ : ByteArray)) ++ ((rdOf ByteArray.empty t406 x5_1).extract 1 (rdOf ByteArray.empty t406 x5_1).size)), (wrap64 (x5_1 + 1)), eqs, eqs, H', ⟨by have := HK1.out; omega⟩, ⟨by (with_reducible repeat (first | apply Kd.R_alloc | apply Kd.R_drewN | apply Kd.R_drew)); exact HO_3.out⟩, ⟨blw⟩⟩
     ·rw [if_neg c9] at H
      have c9b0 : decide (1 ≤ t410) = false := decide_eq_false c9
      clear c9
      obtain ⟨c13, H⟩ := iteS H
      have c13b0 := eq_true c13
      have c13b1 := decide_eq_true c13
      try have c13b2 := eq_false (Nat.not_lt.2 c13)
      have H' := Aside0.mk H
      clear H
      obtain ⟨Ao14, co14, eo14⟩ := Kd.R_slice HO_3.out
      subst eo14
      have p409 : 0 ≤ (x5_1 : Int) := od_
      have q409 : x5_1 < (t406.length : Int) := od_
      obtain ⟨ad409, e409, hx409_0⟩ := Kd.at_string (Kd.R_reads' HO_3.out).2.2 x5_1 p409 q409
      cases e409
      replace p409 := eq_true p409
      replace q409 := eq_true q409
      go_wp2_with (first | ((with_reducible refine gc 27 rfl ?_); refine cl_ (some 22) Tryz.func27 (bulletinref23_Marks.calls k1 (rdOf ByteArray.empty t406 x5_1) t410 _ A8.out) ?_; rintro w' ⟨nd, rfl⟩; have p412 : 0 ≤ (x5_1 : Int) := od_; have q412 : x5_1 < (t406.length : Int) := od_; obtain ⟨ad412, e412, hx412_0⟩ := Kd.at_string (Kd.R_reads' HO_3.out).2.2 x5_1 p412 q412; obtain rfl : ad409 = ad412 := (by injection e412); replace p412 := eq_true p412; replace q412 := eq_true q412))
      go_roundg k1
      case measure => have := HK1.out; omega
      case rel => exact ⟨((x4_1 ++ (⟨#[13, 10]⟩ : ByteArray)) ++ (rdOf ByteArray.empty t406 x5_1)), (wrap64 (x5_1 + 1)), eqs, eqs, H', ⟨by have := HK1.out; omega⟩, ⟨by (with_reducible repeat (first | apply Kd.R_alloc | apply Kd.R_drewN | apply Kd.R_drew)); exact HO_3.out⟩, ⟨blw⟩⟩
    ·rw [if_neg c5] at H
     have c5b0 : decide (0 < x5_1) = false := decide_eq_false c5
     clear c5
     obtain ⟨c15, H⟩ := iteS H
     have c15b0 := decide_eq_true c15
     clear c15
     replace H := Option.bind_eq_some_iff.mp H
     obtain ⟨t414, A160, H⟩ := H
     try dsimp only at H
     have A16 := Aside0.mk A160
     clear A160
     by_cases c17 : t414 ≥ 1
     ·rw [if_pos c17] at H
      have c17b0 : decide (1 ≤ t414) = true := decide_eq_true c17
      clear c17
      obtain ⟨c18, H⟩ := iteS H
      have c18b0 := eq_true c18
      have c18b1 := decide_eq_true c18
      clear c18
      obtain ⟨c19, H⟩ := iteS H
      have c19b0 := eq_true c19
      have c19b1 := decide_eq_true c19
      (try (have c19x := c19; simp only [ByteArray.size_extract, Nat.min_self] at c19x; have c19xb0 := eq_true c19x; have c19xb1 := decide_eq_true c19x; (try have c19xb2 := eq_false (Nat.not_lt.2 c19x)); clear c19x))
      try have c19b2 := eq_false (Nat.not_lt.2 c19)
      have H' := Aside0.mk H
      clear H
      obtain ⟨Ao20, co20, eo20⟩ := Kd.R_slice HO_3.out
      subst eo20
      have p413 : 0 ≤ (x5_1 : Int) := od_
      have q413 : x5_1 < (t406.length : Int) := od_
      obtain ⟨ad413, e413, hx413_0⟩ := Kd.at_string (Kd.R_reads' HO_3.out).2.2 x5_1 p413 q413
      cases e413
      replace p413 := eq_true p413
      replace q413 := eq_true q413
      go_wp2_with (first | ((with_reducible refine gc 27 rfl ?_); refine cl_ (some 22) Tryz.func27 (bulletinref23_Marks.calls k1 (rdOf ByteArray.empty t406 x5_1) t414 _ A16.out) ?_; rintro w' ⟨nd, rfl⟩; have p415 : 0 ≤ (x5_1 : Int) := od_; have q415 : x5_1 < (t406.length : Int) := od_; obtain ⟨ad415, e415, hx415_0⟩ := Kd.at_string (Kd.R_reads' HO_3.out).2.2 x5_1 p415 q415; obtain rfl : ad413 = ad415 := (by injection e415); replace p415 := eq_true p415; replace q415 := eq_true q415))
      go_roundg k1
      case measure => have := HK1.out; omega
      case rel => exact ⟨(x4_1 ++ ((rdOf ByteArray.empty t406 x5_1).extract 1 (rdOf ByteArray.empty t406 x5_1).size)), (wrap64 (x5_1 + 1)), eqs, eqs, H', ⟨by have := HK1.out; omega⟩, ⟨by (with_reducible repeat (first | apply Kd.R_alloc | apply Kd.R_drewN | apply Kd.R_drew)); exact HO_3.out⟩, ⟨blw⟩⟩
     ·rw [if_neg c17] at H
      have c17b0 : decide (1 ≤ t414) = false := decide_eq_false c17
      clear c17
      obtain ⟨c21, H⟩ := iteS H
      have c21b0 := eq_true c21
      have c21b1 := decide_eq_true c21
      try have c21b2 := eq_false (Nat.not_lt.2 c21)
      have H' := Aside0.mk H
      clear H
      obtain ⟨Ao22, co22, eo22⟩ := Kd.R_slice HO_3.out
      subst eo22
      have p413 : 0 ≤ (x5_1 : Int) := od_
      have q413 : x5_1 < (t406.length : Int) := od_
      obtain ⟨ad413, e413, hx413_0⟩ := Kd.at_string (Kd.R_reads' HO_3.out).2.2 x5_1 p413 q413
      cases e413
      replace p413 := eq_true p413
      replace q413 := eq_true q413
      go_wp2_with (first | ((with_reducible refine gc 27 rfl ?_); refine cl_ (some 22) Tryz.func27 (bulletinref23_Marks.calls k1 (rdOf ByteArray.empty t406 x5_1) t414 _ A16.out) ?_; rintro w' ⟨nd, rfl⟩; have p416 : 0 ≤ (x5_1 : Int) := od_; have q416 : x5_1 < (t406.length : Int) := od_; obtain ⟨ad416, e416, hx416_0⟩ := Kd.at_string (Kd.R_reads' HO_3.out).2.2 x5_1 p416 q416; obtain rfl : ad413 = ad416 := (by injection e416); replace p416 := eq_true p416; replace q416 := eq_true q416))
      go_roundg k1
      case measure => have := HK1.out; omega
      case rel => exact ⟨(x4_1 ++ (rdOf ByteArray.empty t406 x5_1)), (wrap64 (x5_1 + 1)), eqs, eqs, H', ⟨by have := HK1.out; omega⟩, ⟨by (with_reducible repeat (first | apply Kd.R_alloc | apply Kd.R_drewN | apply Kd.R_drew)); exact HO_3.out⟩, ⟨blw⟩⟩
   ·rw [if_neg c4] at H
    have c4b0 := decide_eq_false c4
    clear c4
    obtain rfl := Option.some.inj H
    obtain ⟨Ao23, co23, eo23⟩ := Kd.R_slice HO_3.out
    subst eo23
    go_wp2
    go_ret
    exact ⟨by first | rfl | (simp [errW_none, errW_some] <;> rfl) | (simp [*, errW_none, errW_some] <;> rfl), blw⟩
end Go.Proofs.YtcpmoolpbeeedaaGreatDoor.Q
