-- Written by a program of this session (wip/myprint) out of the translation, for YtcpmoolpbeeedaaGreatDoor.
import Derived.Test.YtcpmoolpbeeedaaGreatDoorQ0
import Derived.Test.YtcpmoolpbeeedaaGreatDoorQ22
import Derived.Test.YtcpmoolpbeeedaaGreatDoorQ22c
import Derived.Test.YtcpmoolpbeeedaaGreatDoorQ22d
namespace Go.Proofs.YtcpmoolpbeeedaaGreatDoor.Q
open Go.RowKit Go.Proofs.YtcpmoolpbeeedaaGreatDoorW.PrintWords Go.Proofs.YtcpmoolpbeeedaaGreatDoorW.PrintLast Go.Proofs.YtcpmoolpbeeedaaGreatDoorW.PrintMore Go.Proofs.YtcpmoolpbeeedaaGreatDoorW.PrintSq
attribute [local go_sem] max2_int min2_int max_two min_two max_three min_three max_four min_four   -- for this text's walks alone
set_option linter.unusedVariables false
set_option linter.unusedSimpArgs false

/-! ### bulletinref23_Quote: function 11 -/
def bulletinref23_Quote.l0 : Nat → List ByteArray → ByteArray → Int → Option (ByteArray)
  | 0, _, _, _ => none
  | k + 1, x3, x4, x5 => if x5 < (x3.length : Int) then (if x5 > 0 then (if x4.size + 2 ≤ 9223372036854775807 then (if 0 ≤ x5 then ((bulletinref23_Marks.f k (rdOf ByteArray.empty x3 x5)).bind fun t399 => (if t399 ≥ 0 then (if x4.size + 2 + 1 ≤ 9223372036854775807 then (if x4.size + 2 + 1 + (rdOf ByteArray.empty x3 x5).size ≤ 9223372036854775807 then (bulletinref23_Quote.l0 k x3 (((x4 ++ (⟨#[13, 10]⟩ : ByteArray)) ++ (⟨#[62]⟩ : ByteArray)) ++ (rdOf ByteArray.empty x3 x5)) (wrap64 (x5 + 1))) else (none)) else (none)) else (if x4.size + 2 + (rdOf ByteArray.empty x3 x5).size ≤ 9223372036854775807 then (bulletinref23_Quote.l0 k x3 ((x4 ++ (⟨#[13, 10]⟩ : ByteArray)) ++ (rdOf ByteArray.empty x3 x5)) (wrap64 (x5 + 1))) else (none)))) else (none)) else (none)) else (if 0 ≤ x5 then ((bulletinref23_Marks.f k (rdOf ByteArray.empty x3 x5)).bind fun t403 => (if t403 ≥ 0 then (if x4.size + 1 ≤ 9223372036854775807 then (if x4.size + 1 + (rdOf ByteArray.empty x3 x5).size ≤ 9223372036854775807 then (bulletinref23_Quote.l0 k x3 ((x4 ++ (⟨#[62]⟩ : ByteArray)) ++ (rdOf ByteArray.empty x3 x5)) (wrap64 (x5 + 1))) else (none)) else (none)) else (if x4.size + (rdOf ByteArray.empty x3 x5).size ≤ 9223372036854775807 then (bulletinref23_Quote.l0 k x3 (x4 ++ (rdOf ByteArray.empty x3 x5)) (wrap64 (x5 + 1))) else (none)))) else (none))) else (some x4)
def bulletinref23_Quote.f (k : Nat) (a0 : ByteArray) : Option (ByteArray) := (bulletinref17_Lines.f k a0).bind fun t395 => (bulletinref23_Quote.l0 k t395 (⟨#[]⟩ : ByteArray) 0)
theorem bulletinref23_Quote.mono_l : ∀ k, (∀ y0 y1 y2, LeO (bulletinref23_Quote.l0 k y0 y1 y2) (bulletinref23_Quote.l0 (k + 1) y0 y1 y2))
  | 0 => fun _ _ _ r h => by simp [bulletinref23_Quote.l0] at h
  | k + 1 => by
    have ih0 := bulletinref23_Quote.mono_l k
    · intro y0 y1 y2
      unfold bulletinref23_Quote.l0
      repeat' first | (with_reducible first | exact ih0 _ _ _ | exact bulletinref17_Lines.mono _ _ | exact bulletinref23_Marks.mono _ _ | exact LeO.refl _ | exact LeO.none _ | refine LeO.ite ?_ ?_ | refine LeO.bind ?_ (fun _ => ?_)) | exact ih0 _ _ _ | exact bulletinref17_Lines.mono _ _ | exact bulletinref23_Marks.mono _ _ | exact LeO.none _ | refine LeO.ite ?_ ?_ | refine LeO.bind ?_ (fun _ => ?_)
theorem bulletinref23_Quote.mono : ∀ a0 k, LeO (bulletinref23_Quote.f k a0) (bulletinref23_Quote.f (k + 1) a0) := by
  intro a0 k
  have ih0 := bulletinref23_Quote.mono_l k
  unfold bulletinref23_Quote.f
  repeat' first | (with_reducible first | exact ih0 _ _ _ | exact bulletinref17_Lines.mono _ _ | exact bulletinref23_Marks.mono _ _ | exact LeO.refl _ | exact LeO.none _ | refine LeO.ite ?_ ?_ | refine LeO.bind ?_ (fun _ => ?_)) | exact ih0 _ _ _ | exact bulletinref17_Lines.mono _ _ | exact bulletinref23_Marks.mono _ _ | exact LeO.none _ | refine LeO.ite ?_ ?_ | refine LeO.bind ?_ (fun _ => ?_)
set_option maxHeartbeats 8000000 in
set_option maxRecDepth 100000 in
theorem bulletinref23_Quote.calls (k : Nat) (a0 : ByteArray) (r : ByteArray) (w : World) (h : bulletinref23_Quote.f k a0 = some r) :
    Calls Tryz.prog 11 #[.string a0] w fun e w' => e = .returned (.string r) ∧ Below w.heap.size w w' := by
 have HB := Aside0.mk (Below.refl w.heap.size w)
 unfold bulletinref23_Quote.f at h
 have H := h
 clear h
 replace H := Option.bind_eq_some_iff.mp H
 obtain ⟨t395, A20, H⟩ := H
 try dsimp only at H
 have A2 := Aside0.mk A20
 clear A20
 have H' := Aside0.mk H
 clear H
 go_enter Tryz.func11, Tryz.ntmps11
 go_wp2_with (first | ((with_reducible refine gc 26 rfl ?_); refine gl_ (some 7) Tryz.func26 #[.string a0] ?_; (with_reducible refine (bulletinref17_Lines.calls k a0 t395 _ A2.out).mono ?_); rintro e w3 ⟨v396, rfl, ho0, hb⟩; refine ⟨_, rfl, ?_⟩; have HO397 := Aside0.mk (Kd.R_lower ho0 (below_size blw)); replace HB := Aside0.mk (below_step blw hb); (try clear hb); (try clear ho0)))
 go_loopg [4, 5] k (fun kq v4 v5 w' => ∃ (x4_1 : ByteArray) (x5_1 : Int), v4 = .string x4_1 ∧ v5 = .int .i64 x5_1 ∧ Aside0 (bulletinref23_Quote.l0 kq t395 x4_1 x5_1 = some r) ∧ Aside0 (kq ≤ k) ∧ Aside0 (Kd.R Kd.string 9 w' w.heap.size (fun _ => True) v396 t395) ∧ Aside0 (Below w.heap.size w w'))
 case atStart => exact ⟨((⟨#[]⟩ : ByteArray)), (0), eqs, eqs, H', ⟨Nat.le_refl _⟩, ⟨by (with_reducible repeat (first | apply Kd.R_alloc | apply Kd.R_drewN | apply Kd.R_drew)); exact HO397.out⟩, ⟨blw⟩⟩
 case round =>
  clear H'
  try clear c1
  try clear c2
  try clear p2
  obtain ⟨x4_1, x5_1, rfl, rfl, HA, HK1, HO_3, HB⟩ := hrel
  cases gk with
  | zero => exact absurd HA.out (by simp [bulletinref23_Quote.l0])
  | succ k1 =>
   have H := HA.out
   clear HA
   simp only [bulletinref23_Quote.l0] at H
   by_cases c4 : x5_1 < (t395.length : Int)
   ·rw [if_pos c4] at H
    have c4b0 := decide_eq_true c4
    clear c4
    by_cases c5 : x5_1 > 0
    ·rw [if_pos c5] at H
     have c5b0 : decide (0 < x5_1) = true := decide_eq_true c5
     clear c5
     obtain ⟨c6, H⟩ := iteS H
     have c6b0 := eq_true c6
     have c6b1 := decide_eq_true c6
     try have c6b2 := eq_false (Nat.not_lt.2 c6)
     obtain ⟨c7, H⟩ := iteS H
     have c7b0 := decide_eq_true c7
     clear c7
     replace H := Option.bind_eq_some_iff.mp H
     obtain ⟨t399, A80, H⟩ := H
     try dsimp only at H
     have A8 := Aside0.mk A80
     clear A80
     by_cases c9 : t399 ≥ 0
     ·rw [if_pos c9] at H
      have c9b0 : decide (0 ≤ t399) = true := decide_eq_true c9
      clear c9
      obtain ⟨c10, H⟩ := iteS H
      have c10b0 := eq_true c10
      have c10b1 := decide_eq_true c10
      try have c10b2 := eq_false (Nat.not_lt.2 c10)
      obtain ⟨c11, H⟩ := iteS H
      have c11b0 := eq_true c11
      have c11b1 := decide_eq_true c11
      try have c11b2 := eq_false (Nat.not_lt.2 c11)
      have H' := Aside0.mk H
      clear H
      obtain ⟨Ao12, co12, eo12⟩ := Kd.R_slice HO_3.out
      subst eo12
      have p398 : 0 ≤ (x5_1 : Int) := od_
      have q398 : x5_1 < (t395.length : Int) := od_
      obtain ⟨ad398, e398, hx398_0⟩ := Kd.at_string (Kd.R_reads' HO_3.out).2.2 x5_1 p398 q398
      cases e398
      replace p398 := eq_true p398
      replace q398 := eq_true q398
      go_wp2_with (first | ((with_reducible refine gc 27 rfl ?_); refine cl_ (some 22) Tryz.func27 (bulletinref23_Marks.calls k1 (rdOf ByteArray.empty t395 x5_1) t399 _ A8.out) ?_; rintro w' ⟨nd, rfl⟩; have p400 : 0 ≤ (x5_1 : Int) := od_; have q400 : x5_1 < (t395.length : Int) := od_; obtain ⟨ad400, e400, hx400_0⟩ := Kd.at_string (Kd.R_reads' HO_3.out).2.2 x5_1 p400 q400; obtain rfl : ad398 = ad400 := (by injection e400); replace p400 := eq_true p400; replace q400 := eq_true q400))
      go_roundg k1
      case measure => have := HK1.out; omega
      case rel => exact ⟨(((x4_1 ++ (⟨#[13, 10]⟩ : ByteArray)) ++ (⟨#[62]⟩ : ByteArray)) ++ (rdOf ByteArray.empty t395 x5_1)), (wrap64 (x5_1 + 1)), eqs, eqs, H', ⟨by have := HK1.out; omega⟩, ⟨by (with_reducible repeat (first | apply Kd.R_alloc | apply Kd.R_drewN | apply Kd.R_drew)); exact HO_3.out⟩, ⟨blw⟩⟩
     ·rw [if_neg c9] at H
      have c9b0 : decide (0 ≤ t399) = false := decide_eq_false c9
      clear c9
      obtain ⟨c13, H⟩ := iteS H
      have c13b0 := eq_true c13
      have c13b1 := decide_eq_true c13
      try have c13b2 := eq_false (Nat.not_lt.2 c13)
      have H' := Aside0.mk H
      clear H
      obtain ⟨Ao14, co14, eo14⟩ := Kd.R_slice HO_3.out
      subst eo14
      have p398 : 0 ≤ (x5_1 : Int) := od_
      have q398 : x5_1 < (t395.length : Int) := od_
      obtain ⟨ad398, e398, hx398_0⟩ := Kd.at_string (Kd.R_reads' HO_3.out).2.2 x5_1 p398 q398
      cases e398
      replace p398 := eq_true p398
      replace q398 := eq_true q398
      go_wp2_with (first | ((with_reducible refine gc 27 rfl ?_); refine cl_ (some 22) Tryz.func27 (bulletinref23_Marks.calls k1 (rdOf ByteArray.empty t395 x5_1) t399 _ A8.out) ?_; rintro w' ⟨nd, rfl⟩; have p401 : 0 ≤ (x5_1 : Int) := od_; have q401 : x5_1 < (t395.length : Int) := od_; obtain ⟨ad401, e401, hx401_0⟩ := Kd.at_string (Kd.R_reads' HO_3.out).2.2 x5_1 p401 q401; obtain rfl : ad398 = ad401 := (by injection e401); replace p401 := eq_true p401; replace q401 := eq_true q401))
      go_roundg k1
      case measure => have := HK1.out; omega
      case rel => exact ⟨((x4_1 ++ (⟨#[13, 10]⟩ : ByteArray)) ++ (rdOf ByteArray.empty t395 x5_1)), (wrap64 (x5_1 + 1)), eqs, eqs, H', ⟨by have := HK1.out; omega⟩, ⟨by (with_reducible repeat (first | apply Kd.R_alloc | apply Kd.R_drewN | apply Kd.R_drew)); exact HO_3.out⟩, ⟨blw⟩⟩
    ·rw [if_neg c5] at H
     have c5b0 : decide (0 < x5_1) = false := decide_eq_false c5
     clear c5
     obtain ⟨c15, H⟩ := iteS H
     have c15b0 := decide_eq_true c15
     clear c15
     replace H := Option.bind_eq_some_iff.mp H
     obtain ⟨t403, A160, H⟩ := H
     try dsimp only at H
     have A16 := Aside0.mk A160
     clear A160
     by_cases c17 : t403 ≥ 0
     ·rw [if_pos c17] at H
      have c17b0 : decide (0 ≤ t403) = true := decide_eq_true c17
      clear c17
      obtain ⟨c18, H⟩ := iteS H
      have c18b0 := eq_true c18
      have c18b1 := decide_eq_true c18
      try have c18b2 := eq_false (Nat.not_lt.2 c18)
      obtain ⟨c19, H⟩ := iteS H
      have c19b0 := eq_true c19
      have c19b1 := decide_eq_true c19
      try have c19b2 := eq_false (Nat.not_lt.2 c19)
      have H' := Aside0.mk H
      clear H
      obtain ⟨Ao20, co20, eo20⟩ := Kd.R_slice HO_3.out
      subst eo20
      have p402 : 0 ≤ (x5_1 : Int) := od_
      have q402 : x5_1 < (t395.length : Int) := od_
      obtain ⟨ad402, e402, hx402_0⟩ := Kd.at_string (Kd.R_reads' HO_3.out).2.2 x5_1 p402 q402
      cases e402
      replace p402 := eq_true p402
      replace q402 := eq_true q402
      go_wp2_with (first | ((with_reducible refine gc 27 rfl ?_); refine cl_ (some 22) Tryz.func27 (bulletinref23_Marks.calls k1 (rdOf ByteArray.empty t395 x5_1) t403 _ A16.out) ?_; rintro w' ⟨nd, rfl⟩; have p404 : 0 ≤ (x5_1 : Int) := od_; have q404 : x5_1 < (t395.length : Int) := od_; obtain ⟨ad404, e404, hx404_0⟩ := Kd.at_string (Kd.R_reads' HO_3.out).2.2 x5_1 p404 q404; obtain rfl : ad402 = ad404 := (by injection e404); replace p404 := eq_true p404; replace q404 := eq_true q404))
      go_roundg k1
      case measure => have := HK1.out; omega
      case rel => exact ⟨((x4_1 ++ (⟨#[62]⟩ : ByteArray)) ++ (rdOf ByteArray.empty t395 x5_1)), (wrap64 (x5_1 + 1)), eqs, eqs, H', ⟨by have := HK1.out; omega⟩, ⟨by (with_reducible repeat (first | apply Kd.R_alloc | apply Kd.R_drewN | apply Kd.R_drew)); exact HO_3.out⟩, ⟨blw⟩⟩
     ·rw [if_neg c17] at H
      have c17b0 : decide (0 ≤ t403) = false := decide_eq_false c17
      clear c17
      obtain ⟨c21, H⟩ := iteS H
      have c21b0 := eq_true c21
      have c21b1 := decide_eq_true c21
      try have c21b2 := eq_false (Nat.not_lt.2 c21)
      have H' := Aside0.mk H
      clear H
      obtain ⟨Ao22, co22, eo22⟩ := Kd.R_slice HO_3.out
      subst eo22
      have p402 : 0 ≤ (x5_1 : Int) := od_
      have q402 : x5_1 < (t395.length : Int) := od_
      obtain ⟨ad402, e402, hx402_0⟩ := Kd.at_string (Kd.R_reads' HO_3.out).2.2 x5_1 p402 q402
      cases e402
      replace p402 := eq_true p402
      replace q402 := eq_true q402
      go_wp2_with (first | ((with_reducible refine gc 27 rfl ?_); refine cl_ (some 22) Tryz.func27 (bulletinref23_Marks.calls k1 (rdOf ByteArray.empty t395 x5_1) t403 _ A16.out) ?_; rintro w' ⟨nd, rfl⟩; have p405 : 0 ≤ (x5_1 : Int) := od_; have q405 : x5_1 < (t395.length : Int) := od_; obtain ⟨ad405, e405, hx405_0⟩ := Kd.at_string (Kd.R_reads' HO_3.out).2.2 x5_1 p405 q405; obtain rfl : ad402 = ad405 := (by injection e405); replace p405 := eq_true p405; replace q405 := eq_true q405))
      go_roundg k1
      case measure => have := HK1.out; omega
      case rel => exact ⟨(x4_1 ++ (rdOf ByteArray.empty t395 x5_1)), (wrap64 (x5_1 + 1)), eqs, eqs, H', ⟨by have := HK1.out; omega⟩, ⟨by (with_reducible repeat (first | apply Kd.R_alloc | apply Kd.R_drewN | apply Kd.R_drew)); exact HO_3.out⟩, ⟨blw⟩⟩
   ·rw [if_neg c4] at H
    have c4b0 := decide_eq_false c4
    clear c4
    obtain rfl := Option.some.inj H
    obtain ⟨Ao23, co23, eo23⟩ := Kd.R_slice HO_3.out
    subst eo23
    go_wp2
    go_ret
    exact ⟨by first | rfl | (simp [errW_none, errW_some] <;> rfl) | (simp [*, errW_none, errW_some] <;> rfl), blw⟩
end Go.Proofs.YtcpmoolpbeeedaaGreatDoor.Q
