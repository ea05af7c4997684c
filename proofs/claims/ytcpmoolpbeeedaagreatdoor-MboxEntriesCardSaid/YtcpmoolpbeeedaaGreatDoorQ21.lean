-- Written by a program of this session (wip/myprint) out of the translation, for YtcpmoolpbeeedaaGreatDoor.
import Derived.Test.YtcpmoolpbeeedaaGreatDoorQ0
import Derived.Test.YtcpmoolpbeeedaaGreatDoorQ20
namespace Go.Proofs.YtcpmoolpbeeedaaGreatDoor.Q
open Go.RowKit Go.Proofs.YtcpmoolpbeeedaaGreatDoorW.PrintWords Go.Proofs.YtcpmoolpbeeedaaGreatDoorW.PrintLast Go.Proofs.YtcpmoolpbeeedaaGreatDoorW.PrintMore Go.Proofs.YtcpmoolpbeeedaaGreatDoorW.PrintSq
attribute [local go_sem] max2_int min2_int max_two min_two max_three min_three max_four min_four   -- for this text's walks alone
set_option linter.unusedVariables false
set_option linter.unusedSimpArgs false

/-! ### bulletinref13_Dotted: function 54 -/
def bulletinref13_Dotted.l0 : Nat → List ByteArray → Int → Option (Bool)
  | 0, _, _ => none
  | k + 1, x3, x4 => if x4 < (x3.length : Int) then (if 0 ≤ x4 then ((bulletinref12_IsAtom.f k (rdOf ByteArray.empty x3 x4)).bind fun t423 => (if t423 = true then (bulletinref13_Dotted.l0 k x3 (wrap64 (x4 + 1))) else (some false))) else (none)) else (some true)
def bulletinref13_Dotted.f (k : Nat) (a0 : ByteArray) : Option (Bool) := (bulletinref13_Split.f k a0 46).bind fun t419 => (bulletinref13_Dotted.l0 k t419 0)
theorem bulletinref13_Dotted.mono_l : ∀ k, (∀ y0 y1, LeO (bulletinref13_Dotted.l0 k y0 y1) (bulletinref13_Dotted.l0 (k + 1) y0 y1))
  | 0 => fun _ _ r h => by simp [bulletinref13_Dotted.l0] at h
  | k + 1 => by
    have ih0 := bulletinref13_Dotted.mono_l k
    · intro y0 y1
      unfold bulletinref13_Dotted.l0
      repeat' first | (with_reducible first | exact ih0 _ _ | exact bulletinref12_IsAtom.mono _ _ | exact bulletinref13_Split.mono _ _ _ | exact LeO.refl _ | exact LeO.none _ | refine LeO.ite ?_ ?_ | refine LeO.bind ?_ (fun _ => ?_)) | exact ih0 _ _ | exact bulletinref12_IsAtom.mono _ _ | exact bulletinref13_Split.mono _ _ _ | exact LeO.none _ | refine LeO.ite ?_ ?_ | refine LeO.bind ?_ (fun _ => ?_)
theorem bulletinref13_Dotted.mono : ∀ a0 k, LeO (bulletinref13_Dotted.f k a0) (bulletinref13_Dotted.f (k + 1) a0) := by
  intro a0 k
  have ih0 := bulletinref13_Dotted.mono_l k
  unfold bulletinref13_Dotted.f
  repeat' first | (with_reducible first | exact ih0 _ _ | exact bulletinref12_IsAtom.mono _ _ | exact bulletinref13_Split.mono _ _ _ | exact LeO.refl _ | exact LeO.none _ | refine LeO.ite ?_ ?_ | refine LeO.bind ?_ (fun _ => ?_)) | exact ih0 _ _ | exact bulletinref12_IsAtom.mono _ _ | exact bulletinref13_Split.mono _ _ _ | exact LeO.none _ | refine LeO.ite ?_ ?_ | refine LeO.bind ?_ (fun _ => ?_)
set_option maxHeartbeats 8000000 in
set_option maxRecDepth 100000 in
theorem bulletinref13_Dotted.calls (k : Nat) (a0 : ByteArray) (r : Bool) (w : World) (h : bulletinref13_Dotted.f k a0 = some r) :
    Calls Tryz.prog 54 #[.string a0] w fun e w' => e = .returned (.bool r) ∧ Below w.heap.size w w' := by
 have HB := Aside0.mk (Below.refl w.heap.size w)
 unfold bulletinref13_Dotted.f at h
 have H := h
 clear h
 replace H := Option.bind_eq_some_iff.mp H
 obtain ⟨t419, A20, H⟩ := H
 try dsimp only at H
 have A2 := Aside0.mk A20
 clear A20
 have H' := Aside0.mk H
 clear H
 go_enter Tryz.func54, Tryz.ntmps54
 go_wp2_with (first | ((with_reducible refine gc 87 rfl ?_); refine gl_ (some 6) Tryz.func87 #[.string a0, .int .u8 46] ?_; (with_reducible refine (bulletinref13_Split.calls k a0 46 t419 _ A2.out).mono ?_); rintro e w3 ⟨v420, rfl, ho0, hb⟩; refine ⟨_, rfl, ?_⟩; have HO421 := Aside0.mk (Kd.R_lower ho0 (below_size blw)); replace HB := Aside0.mk (below_step blw hb); (try clear hb); (try clear ho0)))
 go_loopg [4] k (fun kq v4 w' => ∃ (x4_1 : Int), v4 = .int .i64 x4_1 ∧ Aside0 (bulletinref13_Dotted.l0 kq t419 x4_1 = some r) ∧ Aside0 (kq ≤ k) ∧ Aside0 (Kd.R Kd.string 9 w' w.heap.size (fun _ => True) v420 t419) ∧ Aside0 (Below w.heap.size w w'))
 case atStart => exact ⟨(0), eqs, H', ⟨Nat.le_refl _⟩, ⟨by (with_reducible repeat (first | apply Kd.R_alloc | apply Kd.R_drewN | apply Kd.R_drew)); exact HO421.out⟩, ⟨blw⟩⟩
 case round =>
  clear H'
  try clear p2
  obtain ⟨x4_1, rfl, HA, HK1, HO_3, HB⟩ := hrel
  cases gk with
  | zero => exact absurd HA.out (by simp [bulletinref13_Dotted.l0])
  | succ k1 =>
   have H := HA.out
   clear HA
   simp only [bulletinref13_Dotted.l0] at H
   by_cases c4 : x4_1 < (t419.length : Int)
   ·rw [if_pos c4] at H
    have c4b0 := decide_eq_true c4
    clear c4
    obtain ⟨c5, H⟩ := iteS H
    have c5b0 := decide_eq_true c5
    clear c5
    replace H := Option.bind_eq_some_iff.mp H
    obtain ⟨t423, A60, H⟩ := H
    try dsimp only at H
    have A6 := Aside0.mk A60
    clear A60
    by_cases c7 : t423 = true
    ·subst c7
     rw [if_pos rfl] at H
     have H' := Aside0.mk H
     clear H
     obtain ⟨Ao8, co8, eo8⟩ := Kd.R_slice HO_3.out
     subst eo8
     have p422 : 0 ≤ (x4_1 : Int) := od_
     have q422 : x4_1 < (t419.length : Int) := od_
     obtain ⟨ad422, e422, hx422_0⟩ := Kd.at_string (Kd.R_reads' HO_3.out).2.2 x4_1 p422 q422
     cases e422
     replace p422 := eq_true p422
     replace q422 := eq_true q422
     go_wp2_with (first | ((with_reducible refine gc 88 rfl ?_); refine cl_ (some 17) Tryz.func88 (bulletinref12_IsAtom.calls k1 (rdOf ByteArray.empty t419 x4_1) true _ A6.out) ?_; rintro w' ⟨nd, rfl⟩))
     go_roundg k1
     case measure => have := HK1.out; omega
     case rel => exact ⟨(wrap64 (x4_1 + 1)), eqs, H', ⟨by have := HK1.out; omega⟩, ⟨by (with_reducible repeat (first | apply Kd.R_alloc | apply Kd.R_drewN | apply Kd.R_drew)); exact HO_3.out⟩, ⟨blw⟩⟩
    ·replace c7 := Bool.eq_false_iff.mpr c7
     subst c7
     rw [if_neg nft] at H
     obtain rfl := Option.some.inj H
     obtain ⟨Ao9, co9, eo9⟩ := Kd.R_slice HO_3.out
     subst eo9
     have p422 : 0 ≤ (x4_1 : Int) := od_
     have q422 : x4_1 < (t419.length : Int) := od_
     obtain ⟨ad422, e422, hx422_0⟩ := Kd.at_string (Kd.R_reads' HO_3.out).2.2 x4_1 p422 q422
     cases e422
     replace p422 := eq_true p422
     replace q422 := eq_true q422
     go_wp2_with (first | ((with_reducible refine gc 88 rfl ?_); refine cl_ (some 17) Tryz.func88 (bulletinref12_IsAtom.calls k1 (rdOf ByteArray.empty t419 x4_1) false _ A6.out) ?_; rintro w' ⟨nd, rfl⟩))
     go_ret
     exact ⟨by first | rfl | (simp [errW_none, errW_some] <;> rfl) | (simp [*, errW_none, errW_some] <;> rfl), blw⟩
   ·rw [if_neg c4] at H
    have c4b0 := decide_eq_false c4
    clear c4
    obtain rfl := Option.some.inj H
    obtain ⟨Ao10, co10, eo10⟩ := Kd.R_slice HO_3.out
    subst eo10
    go_wp2
    go_ret
    exact ⟨by first | rfl | (simp [errW_none, errW_some] <;> rfl) | (simp [*, errW_none, errW_some] <;> rfl), blw⟩

/-! ### bulletinref12_Text: function 89 -/
def bulletinref12_Text.f (a0 : Int) : Option (Bool) := if a0 = 9 then (some true) else (if a0 ≥ 32 then (if a0 ≤ 126 then (some true) else (some (decide (a0 > 127)))) else (some (decide (a0 > 127))))
set_option maxHeartbeats 8000000 in
set_option maxRecDepth 100000 in
theorem bulletinref12_Text.calls (a0 : Int) (r : Bool) (w : World) (h : bulletinref12_Text.f a0 = some r) :
    Calls Tryz.prog 89 #[.int .u8 a0] w fun e w' => e = .returned (.bool r) ∧ Drawn0 w w' := by
 unfold bulletinref12_Text.f at h
 have H := h
 clear h
 by_cases c2 : a0 = 9
 ·rw [if_pos c2] at H
  have c2b0 := beq_iff_eq.mpr c2
  have c2b1 := bne_eq_false_iff_eq.mpr c2
  clear c2
  obtain rfl := Option.some.inj H
  go_enter Tryz.func89, Tryz.ntmps89
  go_wp2
  go_ret
  exact ⟨eqs, drw⟩
 ·rw [if_neg c2] at H
  have c2b0 := beq_eq_false_iff_ne.mpr c2
  have c2b1 := bne_iff_ne.mpr c2
  by_cases c3 : a0 ≥ 32
  ·rw [if_pos c3] at H
   have c3b0 : decide (32 ≤ a0) = true := decide_eq_true c3
   clear c3
   by_cases c4 : a0 ≤ 126
   ·rw [if_pos c4] at H
    have c4b0 := decide_eq_true c4
    clear c4
    obtain rfl := Option.some.inj H
    go_enter Tryz.func89, Tryz.ntmps89
    go_wp2
    go_ret
    exact ⟨eqs, drw⟩
   ·rw [if_neg c4] at H
    have c4b0 := decide_eq_false c4
    clear c4
    obtain rfl := Option.some.inj H
    go_enter Tryz.func89, Tryz.ntmps89
    go_wp2
    go_ret
    exact ⟨eqs, drw⟩
  ·rw [if_neg c3] at H
   have c3b0 : decide (32 ≤ a0) = false := decide_eq_false c3
   clear c3
   obtain rfl := Option.some.inj H
   go_enter Tryz.func89, Tryz.ntmps89
   go_wp2
   go_ret
   exact ⟨eqs, drw⟩

/-! ### bulletinref12_Quote: function 55 -/
mutual
def bulletinref12_Quote.l0 : Nat → ByteArray → ByteArray → Int → Option (ByteArray)
  | 0, _, _, _ => none
  | k + 1, x0, x3, x4 => if x4 < (x0.size : Int) then (if 0 ≤ x4 then (if x4 ≤ (wrap64 (x4 + 1)) then (if (wrap64 (x4 + 1)) ≤ (x0.size : Int) then (if (bt x0 x4) = 34 then (bulletinref12_Quote.j1 k x0 x3 x4 (x0.extract (x4 : Int).toNat ((wrap64 (x4 + 1)) : Int).toNat) true) else (bulletinref12_Quote.j1 k x0 x3 x4 (x0.extract (x4 : Int).toNat ((wrap64 (x4 + 1)) : Int).toNat) ((bt x0 x4) == 92))) else (none)) else (none)) else (none)) else (if 1 + x3.size ≤ 9223372036854775807 then (if 1 + x3.size + 1 ≤ 9223372036854775807 then (some (((⟨#[34]⟩ : ByteArray) ++ x3) ++ (⟨#[34]⟩ : ByteArray))) else (none)) else (none))
def bulletinref12_Quote.j1 : Nat → ByteArray → ByteArray → Int → ByteArray → Bool → Option (ByteArray)
  | 0, _, _, _, _, _ => none
  | k + 1, x0, x3, x4, x5, x26 => if x26 = true then (if 1 + x5.size ≤ 9223372036854775807 then (if 0 ≤ x4 then (if x4 < (x0.size : Int) then ((bulletinref12_Text.f (bt x0 x4)).bind fun t424 => (if t424 = true then (if x3.size + (1 + x5.size) ≤ 9223372036854775807 then (bulletinref12_Quote.l0 k x0 (x3 ++ ((⟨#[92]⟩ : ByteArray) ++ x5)) (wrap64 (x4 + 1))) else (none)) else (if x3.size + 1 ≤ 9223372036854775807 then (bulletinref12_Quote.l0 k x0 (x3 ++ (⟨#[32]⟩ : ByteArray)) (wrap64 (x4 + 1))) else (none)))) else (none)) else (none)) else (none)) else (if 0 ≤ x4 then (if x4 < (x0.size : Int) then ((bulletinref12_Text.f (bt x0 x4)).bind fun t425 => (if t425 = true then (if x3.size + x5.size ≤ 9223372036854775807 then (bulletinref12_Quote.l0 k x0 (x3 ++ x5) (wrap64 (x4 + 1))) else (none)) else (if x3.size + 1 ≤ 9223372036854775807 then (bulletinref12_Quote.l0 k x0 (x3 ++ (⟨#[32]⟩ : ByteArray)) (wrap64 (x4 + 1))) else (none)))) else (none)) else (none))
end
def bulletinref12_Quote.f (k : Nat) (a0 : ByteArray) : Option (ByteArray) := bulletinref12_Quote.l0 k a0 (⟨#[]⟩ : ByteArray) 0
theorem bulletinref12_Quote.mono_l : ∀ k, (∀ y0 y1 y2, LeO (bulletinref12_Quote.l0 k y0 y1 y2) (bulletinref12_Quote.l0 (k + 1) y0 y1 y2)) ∧ (∀ y0 y1 y2 y3 y4, LeO (bulletinref12_Quote.j1 k y0 y1 y2 y3 y4) (bulletinref12_Quote.j1 (k + 1) y0 y1 y2 y3 y4))
  | 0 => ⟨fun _ _ _ r h => by simp [bulletinref12_Quote.l0] at h, fun _ _ _ _ _ r h => by simp [bulletinref12_Quote.j1] at h⟩
  | k + 1 => by
    obtain ⟨ih0, ih1⟩ := bulletinref12_Quote.mono_l k
    refine ⟨?_, ?_⟩
    · intro y0 y1 y2
      unfold bulletinref12_Quote.l0
      repeat' first | (with_reducible first | exact ih0 _ _ _ | exact ih1 _ _ _ _ _ | exact LeO.refl _ | exact LeO.none _ | refine LeO.ite ?_ ?_ | refine LeO.bind ?_ (fun _ => ?_)) | exact ih0 _ _ _ | exact ih1 _ _ _ _ _ | exact LeO.none _ | refine LeO.ite ?_ ?_ | refine LeO.bind ?_ (fun _ => ?_)
    · intro y0 y1 y2 y3 y4
      unfold bulletinref12_Quote.j1
      repeat' first | (with_reducible first | exact ih0 _ _ _ | exact ih1 _ _ _ _ _ | exact LeO.refl _ | exact LeO.none _ | refine LeO.ite ?_ ?_ | refine LeO.bind ?_ (fun _ => ?_)) | exact ih0 _ _ _ | exact ih1 _ _ _ _ _ | exact LeO.none _ | refine LeO.ite ?_ ?_ | refine LeO.bind ?_ (fun _ => ?_)
theorem bulletinref12_Quote.mono : ∀ a0 k, LeO (bulletinref12_Quote.f k a0) (bulletinref12_Quote.f (k + 1) a0) := by
  intro a0 k
  obtain ⟨ih0, ih1⟩ := bulletinref12_Quote.mono_l k
  unfold bulletinref12_Quote.f
  repeat' first | (with_reducible first | exact ih0 _ _ _ | exact ih1 _ _ _ _ _ | exact LeO.refl _ | exact LeO.none _ | refine LeO.ite ?_ ?_ | refine LeO.bind ?_ (fun _ => ?_)) | exact ih0 _ _ _ | exact ih1 _ _ _ _ _ | exact LeO.none _ | refine LeO.ite ?_ ?_ | refine LeO.bind ?_ (fun _ => ?_)
set_option maxHeartbeats 8000000 in
set_option maxRecDepth 100000 in
theorem bulletinref12_Quote.calls (k : Nat) (a0 : ByteArray) (r : ByteArray) (w : World) (h : bulletinref12_Quote.f k a0 = some r) :
    Calls Tryz.prog 55 #[.string a0] w fun e w' => e = .returned (.string r) ∧ Drawn0 w w' := by
 unfold bulletinref12_Quote.f at h
 have H := h
 clear h
 have H' := Aside0.mk H
 clear H
 go_enter Tryz.func55, Tryz.ntmps55
 go_wp2
 go_loopg [3, 4] k (fun kq v3 v4 w' => ∃ (x3_1 : ByteArray) (x4_1 : Int), v3 = .string x3_1 ∧ v4 = .int .i64 x4_1 ∧ Aside0 (bulletinref12_Quote.l0 kq a0 x3_1 x4_1 = some r) ∧ Aside0 (kq ≤ k) ∧ Drawn0 w w')
 case atStart => exact ⟨((⟨#[]⟩ : ByteArray)), (0), eqs, eqs, H', ⟨Nat.le_refl _⟩, drw⟩
 case round =>
  clear H'
  obtain ⟨x3_1, x4_1, rfl, rfl, HA, HK1, ⟨m1, rfl⟩⟩ := hrel
  cases gk with
  | zero => exact absurd HA.out (by simp [bulletinref12_Quote.l0])
  | succ k1 =>
   have H := HA.out
   clear HA
   simp only [bulletinref12_Quote.l0] at H
   by_cases c2 : x4_1 < (a0.size : Int)
   ·rw [if_pos c2] at H
    have c2b0 := decide_eq_true c2
    clear c2
    obtain ⟨c3, H⟩ := iteS H
    have c3b0 := eq_true c3
    have c3b1 := decide_eq_true c3
    clear c3
    obtain ⟨c4, H⟩ := iteS H
    have c4b0 := eq_true c4
    have c4b1 := decide_eq_true c4
    obtain ⟨c5, H⟩ := iteS H
    have c5b0 := eq_true c5
    have c5b1 := decide_eq_true c5
    have HC6 := Aside0.mk H
    clear H
    go_upto_region 6 with (fail)
    go_cut [26] (fun v26 wc => ∃ (kq : Nat) (x26_5 : Bool), v26 = .bool x26_5 ∧ Aside0 (bulletinref12_Quote.j1 kq a0 x3_1 x4_1 (a0.extract (x4_1 : Int).toNat ((wrap64 (x4_1 + 1)) : Int).toNat) x26_5 = some r) ∧ Aside0 (kq ≤ k1) ∧ Drawn0 w wc)
    case first =>
     have H := HC6.out
     clear HC6
     by_cases c8 : (bt a0 x4_1) = 34
     ·rw [if_pos c8] at H
      have c8b0 := beq_iff_eq.mpr c8
      have c8b1 := bne_eq_false_iff_eq.mpr c8
      clear c8
      (first | rw [c8b0] | (simp only [i64_w, i32_w]; rw [c8b0]) | skip)
      have H' := Aside0.mk H
      clear H
      have p7 : 0 ≤ (x4_1 : Int) := od_
      have q7 : x4_1 < (a0.size : Int) := od_
      have hx7 := bt_at a0 x4_1
      replace p7 := eq_true p7
      replace q7 := eq_true q7
      go_wp2
      go_meet
      case rel => exact ⟨_, (true), eqs, H', ⟨by have := HK1.out; first | omega | exact Nat.le_refl _⟩, drw⟩
     ·rw [if_neg c8] at H
      have c8b0 := beq_eq_false_iff_ne.mpr c8
      have c8b1 := bne_iff_ne.mpr c8
      (first | rw [c8b0] | (simp only [i64_w, i32_w]; rw [c8b0]) | skip)
      have H' := Aside0.mk H
      clear H
      have p7 : 0 ≤ (x4_1 : Int) := od_
      have q7 : x4_1 < (a0.size : Int) := od_
      have hx7 := bt_at a0 x4_1
      replace p7 := eq_true p7
      replace q7 := eq_true q7
      have p9 : 0 ≤ (x4_1 : Int) := od_
      have q9 : x4_1 < (a0.size : Int) := od_
      have hx9 := bt_at a0 x4_1
      replace p9 := eq_true p9
      replace q9 := eq_true q9
      go_wp2
      go_meet
      case rel => exact ⟨_, (((bt a0 x4_1) == 92)), eqs, H', ⟨by have := HK1.out; first | omega | exact Nat.le_refl _⟩, drw⟩
    case rest =>
     clear HC6
     try clear c2
     try clear c2b0
     try clear p2
     try clear c3
     try clear c3b0
     try clear c3b1
     try clear c4
     try clear c4b0
     try clear c4b1
     try clear c5
     try clear c5b0
     try clear c5b1
     try clear p6
     try clear p7
     try clear q7
     try clear hx7
     try clear c8
     try clear c8b0
     try clear c8b1
     try clear p9
     try clear q9
     try clear hx9
     try clear p7
     try clear p9
     try clear q7
     try clear q9
     obtain ⟨kq, x26_5, rfl, HA, HJ5, ⟨mc5, rfl⟩⟩ := hcut
     cases kq with
     | zero => exact absurd HA.out (by simp [bulletinref12_Quote.j1])
     | succ kj5 =>
      have H := HA.out
      clear HA
      simp only [bulletinref12_Quote.j1] at H
      by_cases c10 : x26_5 = true
      ·subst c10
       rw [if_pos rfl] at H
       obtain ⟨c11, H⟩ := iteS H
       have c11b0 := eq_true c11
       have c11b1 := decide_eq_true c11
       (try (have c11x := c11; simp only [ByteArray.size_extract, Nat.min_self] at c11x; have c11xb0 := eq_true c11x; have c11xb1 := decide_eq_true c11x; (try have c11xb2 := eq_false (Nat.not_lt.2 c11x)); clear c11x))
       try have c11b2 := eq_false (Nat.not_lt.2 c11)
       obtain ⟨c12, H⟩ := iteS H
       have c12b0 := decide_eq_true c12
       clear c12
       obtain ⟨c13, H⟩ := iteS H
       have c13b0 := decide_eq_true c13
       clear c13
       replace H := Option.bind_eq_some_iff.mp H
       obtain ⟨t424, A150, H⟩ := H
       try dsimp only at H
       have A15 := Aside0.mk A150
       clear A150
       by_cases c16 : t424 = true
       ·subst c16
        rw [if_pos rfl] at H
        obtain ⟨c17, H⟩ := iteS H
        have c17b0 := eq_true c17
        have c17b1 := decide_eq_true c17
        (try (have c17x := c17; simp only [ByteArray.size_extract, Nat.min_self] at c17x; have c17xb0 := eq_true c17x; have c17xb1 := decide_eq_true c17x; (try have c17xb2 := eq_false (Nat.not_lt.2 c17x)); clear c17x))
        try have c17b2 := eq_false (Nat.not_lt.2 c17)
        have H' := Aside0.mk H
        clear H
        have p14 : 0 ≤ (x4_1 : Int) := od_
        have q14 : x4_1 < (a0.size : Int) := od_
        have hx14 := bt_at a0 x4_1
        replace p14 := eq_true p14
        replace q14 := eq_true q14
        go_wp2_with (first | ((with_reducible refine gc 89 rfl ?_); refine cl_ (some 32) Tryz.func89 (bulletinref12_Text.calls (bt a0 x4_1) true _ A15.out) ?_; rintro w' ⟨nd, rfl⟩))
        go_roundg kj5
        case measure => have := HK1.out; have := HJ5.out; omega
        case rel => exact ⟨(x3_1 ++ ((⟨#[92]⟩ : ByteArray) ++ (a0.extract (x4_1 : Int).toNat ((wrap64 (x4_1 + 1)) : Int).toNat))), (wrap64 (x4_1 + 1)), eqs, eqs, H', ⟨by have := HK1.out; have := HJ5.out; omega⟩, drw⟩
       ·replace c16 := Bool.eq_false_iff.mpr c16
        subst c16
        rw [if_neg nft] at H
        obtain ⟨c18, H⟩ := iteS H
        have c18b0 := eq_true c18
        have c18b1 := decide_eq_true c18
        try have c18b2 := eq_false (Nat.not_lt.2 c18)
        have H' := Aside0.mk H
        clear H
        have p14 : 0 ≤ (x4_1 : Int) := od_
        have q14 : x4_1 < (a0.size : Int) := od_
        have hx14 := bt_at a0 x4_1
        replace p14 := eq_true p14
        replace q14 := eq_true q14
        go_wp2_with (first | ((with_reducible refine gc 89 rfl ?_); refine cl_ (some 32) Tryz.func89 (bulletinref12_Text.calls (bt a0 x4_1) false _ A15.out) ?_; rintro w' ⟨nd, rfl⟩))
        go_roundg kj5
        case measure => have := HK1.out; have := HJ5.out; omega
        case rel => exact ⟨(x3_1 ++ (⟨#[32]⟩ : ByteArray)), (wrap64 (x4_1 + 1)), eqs, eqs, H', ⟨by have := HK1.out; have := HJ5.out; omega⟩, drw⟩
      ·replace c10 := Bool.eq_false_iff.mpr c10
       subst c10
       rw [if_neg nft] at H
       obtain ⟨c19, H⟩ := iteS H
       have c19b0 := decide_eq_true c19
       clear c19
       obtain ⟨c20, H⟩ := iteS H
       have c20b0 := decide_eq_true c20
       clear c20
       replace H := Option.bind_eq_some_iff.mp H
       obtain ⟨t425, A220, H⟩ := H
       try dsimp only at H
       have A22 := Aside0.mk A220
       clear A220
       by_cases c23 : t425 = true
       ·subst c23
        rw [if_pos rfl] at H
        obtain ⟨c24, H⟩ := iteS H
        have c24b0 := eq_true c24
        have c24b1 := decide_eq_true c24
        (try (have c24x := c24; simp only [ByteArray.size_extract, Nat.min_self] at c24x; have c24xb0 := eq_true c24x; have c24xb1 := decide_eq_true c24x; (try have c24xb2 := eq_false (Nat.not_lt.2 c24x)); clear c24x))
        try have c24b2 := eq_false (Nat.not_lt.2 c24)
        have H' := Aside0.mk H
        clear H
        have p21 : 0 ≤ (x4_1 : Int) := od_
        have q21 : x4_1 < (a0.size : Int) := od_
        have hx21 := bt_at a0 x4_1
        replace p21 := eq_true p21
        replace q21 := eq_true q21
        go_wp2_with (first | ((with_reducible refine gc 89 rfl ?_); refine cl_ (some 32) Tryz.func89 (bulletinref12_Text.calls (bt a0 x4_1) true _ A22.out) ?_; rintro w' ⟨nd, rfl⟩))
        go_roundg kj5
        case measure => have := HK1.out; have := HJ5.out; omega
        case rel => exact ⟨(x3_1 ++ (a0.extract (x4_1 : Int).toNat ((wrap64 (x4_1 + 1)) : Int).toNat)), (wrap64 (x4_1 + 1)), eqs, eqs, H', ⟨by have := HK1.out; have := HJ5.out; omega⟩, drw⟩
       ·replace c23 := Bool.eq_false_iff.mpr c23
        subst c23
        rw [if_neg nft] at H
        obtain ⟨c25, H⟩ := iteS H
        have c25b0 := eq_true c25
        have c25b1 := decide_eq_true c25
        try have c25b2 := eq_false (Nat.not_lt.2 c25)
        have H' := Aside0.mk H
        clear H
        have p21 : 0 ≤ (x4_1 : Int) := od_
        have q21 : x4_1 < (a0.size : Int) := od_
        have hx21 := bt_at a0 x4_1
        replace p21 := eq_true p21
        replace q21 := eq_true q21
        go_wp2_with (first | ((with_reducible refine gc 89 rfl ?_); refine cl_ (some 32) Tryz.func89 (bulletinref12_Text.calls (bt a0 x4_1) false _ A22.out) ?_; rintro w' ⟨nd, rfl⟩))
        go_roundg kj5
        case measure => have := HK1.out; have := HJ5.out; omega
        case rel => exact ⟨(x3_1 ++ (⟨#[32]⟩ : ByteArray)), (wrap64 (x4_1 + 1)), eqs, eqs, H', ⟨by have := HK1.out; have := HJ5.out; omega⟩, drw⟩
   ·rw [if_neg c2] at H
    have c2b0 := decide_eq_false c2
    clear c2
    obtain ⟨c26, H⟩ := iteS H
    have c26b0 := eq_true c26
    have c26b1 := decide_eq_true c26
    try have c26b2 := eq_false (Nat.not_lt.2 c26)
    obtain ⟨c27, H⟩ := iteS H
    have c27b0 := eq_true c27
    have c27b1 := decide_eq_true c27
    try have c27b2 := eq_false (Nat.not_lt.2 c27)
    obtain rfl := Option.some.inj H
    go_wp2
    go_ret
    exact ⟨eqs, drw⟩

/-! ### bulletinref13_Text: function 33 -/
def bulletinref13_Text.f (k : Nat) (a0_0 : ByteArray) (a0_1 : ByteArray) : Option (ByteArray) := (bulletinref13_Dotted.f k a0_0).bind fun t427 => (if t427 = true then (if a0_0.size + 1 ≤ 9223372036854775807 then (if a0_0.size + 1 + a0_1.size ≤ 9223372036854775807 then (some ((a0_0 ++ (⟨#[64]⟩ : ByteArray)) ++ a0_1)) else (none)) else (none)) else ((bulletinref12_Quote.f k a0_0).bind fun t428 => (if t428.size + 1 ≤ 9223372036854775807 then (if t428.size + 1 + a0_1.size ≤ 9223372036854775807 then (some ((t428 ++ (⟨#[64]⟩ : ByteArray)) ++ a0_1)) else (none)) else (none))))
theorem bulletinref13_Text.mono : ∀ a0 a1 k, LeO (bulletinref13_Text.f k a0 a1) (bulletinref13_Text.f (k + 1) a0 a1) := by
  intro a0 a1 k
  unfold bulletinref13_Text.f
  repeat' first | (with_reducible first | exact bulletinref12_Quote.mono _ _ | exact bulletinref13_Dotted.mono _ _ | exact LeO.refl _ | exact LeO.none _ | refine LeO.ite ?_ ?_ | refine LeO.bind ?_ (fun _ => ?_)) | exact bulletinref12_Quote.mono _ _ | exact bulletinref13_Dotted.mono _ _ | exact LeO.none _ | refine LeO.ite ?_ ?_ | refine LeO.bind ?_ (fun _ => ?_)
set_option maxHeartbeats 8000000 in
set_option maxRecDepth 100000 in
theorem bulletinref13_Text.calls (k : Nat) (a0_0 : ByteArray) (a0_1 : ByteArray) (r : ByteArray) (w : World) (h : bulletinref13_Text.f k a0_0 a0_1 = some r) :
    Calls Tryz.prog 33 #[.agg #[.string a0_0, .string a0_1]] w fun e w' => e = .returned (.string r) ∧ Below w.heap.size w w' := by
 have hu26 := Tryz.underlying26
 have HB := Aside0.mk (Below.refl w.heap.size w)
 unfold bulletinref13_Text.f at h
 have H := h
 clear h
 replace H := Option.bind_eq_some_iff.mp H
 obtain ⟨t427, A20, H⟩ := H
 try dsimp only at H
 have A2 := Aside0.mk A20
 clear A20
 by_cases c3 : t427 = true
 ·subst c3
  rw [if_pos rfl] at H
  obtain ⟨c4, H⟩ := iteS H
  have c4b0 := eq_true c4
  have c4b1 := decide_eq_true c4
  try have c4b2 := eq_false (Nat.not_lt.2 c4)
  obtain ⟨c5, H⟩ := iteS H
  have c5b0 := eq_true c5
  have c5b1 := decide_eq_true c5
  try have c5b2 := eq_false (Nat.not_lt.2 c5)
  obtain rfl := Option.some.inj H
  go_enter Tryz.func33, Tryz.ntmps33
  go_wp2_with (first | ((with_reducible refine gate_dst (N := 1) rfl ?_); refine box_event ?hg (N := 1) ?hd (cs := #[.string a0_0, .string a0_1]) (t := 26) ?hr ?_; (case hd => rfl); (case hg => rfl); (case hr => first | (go_simp; done) | (go_simp; rfl)); intro gb426 hg w6 hbox hb; have BK426 := Aside0.mk (hbox); have GW426 : Aside0 (w.heap.size ≤ gb426) := gw_ hg; have GE426 : Aside0 (w.heap.size ≤ gb426) := gw_ hg; replace HB := Aside0.mk (below_step blw hb); clear hb hbox hg; have hcz7_0 : w6.cell? ⟨gb426, 0, none⟩ = some (.string a0_0) := bk_ BK426; have hcz7_1 : w6.cell? ⟨gb426, 1, none⟩ = some (.string a0_1) := bk_ BK426; have hfz7_0 := blk_frozen BK426.out 0; have hfz7_1 := blk_frozen BK426.out 1) | (go_at_call 54; (with_reducible refine (bulletinref13_Dotted.calls k a0_0 true _ A2.out).mono ?_); rintro e w8 ⟨rfl, hb⟩; replace BK426 := Aside0.mk (blk_below (g := gb426) (o := .cells #[.string a0_0, .string a0_1] 26 (0, 0)) (bkw BK426) hb); replace HB := Aside0.mk (below_step blw hb); (try clear hb); have hcz9_0 : w8.cell? ⟨gb426, 0, none⟩ = some (.string a0_0) := bk_ BK426; have hcz9_1 : w8.cell? ⟨gb426, 1, none⟩ = some (.string a0_1) := bk_ BK426; have hfz9_0 := blk_frozen BK426.out 0; have hfz9_1 := blk_frozen BK426.out 1))
  repeat (go_quiet (first | ((with_reducible refine gate_dst (N := 1) rfl ?_); refine box_event ?hg (N := 1) ?hd (cs := #[.string a0_0, .string a0_1]) (t := 26) ?hr ?_; (case hd => rfl); (case hg => rfl); (case hr => first | (go_simp; done) | (go_simp; rfl)); intro gb426 hg w6 hbox hb; have BK426 := Aside0.mk (hbox); have GW426 : Aside0 (w.heap.size ≤ gb426) := gw_ hg; have GE426 : Aside0 (w.heap.size ≤ gb426) := gw_ hg; replace HB := Aside0.mk (below_step blw hb); clear hb hbox hg; have hcz7_0 : w6.cell? ⟨gb426, 0, none⟩ = some (.string a0_0) := bk_ BK426; have hcz7_1 : w6.cell? ⟨gb426, 1, none⟩ = some (.string a0_1) := bk_ BK426; have hfz7_0 := blk_frozen BK426.out 0; have hfz7_1 := blk_frozen BK426.out 1) | (go_at_call 54; (with_reducible refine (bulletinref13_Dotted.calls k a0_0 true _ A2.out).mono ?_); rintro e w8 ⟨rfl, hb⟩; replace BK426 := Aside0.mk (blk_below (g := gb426) (o := .cells #[.string a0_0, .string a0_1] 26 (0, 0)) (bkw BK426) hb); replace HB := Aside0.mk (below_step blw hb); (try clear hb); have hcz9_0 : w8.cell? ⟨gb426, 0, none⟩ = some (.string a0_0) := bk_ BK426; have hcz9_1 : w8.cell? ⟨gb426, 1, none⟩ = some (.string a0_1) := bk_ BK426; have hfz9_0 := blk_frozen BK426.out 0; have hfz9_1 := blk_frozen BK426.out 1)); try go_wp2_with (first | ((with_reducible refine gate_dst (N := 1) rfl ?_); refine box_event ?hg (N := 1) ?hd (cs := #[.string a0_0, .string a0_1]) (t := 26) ?hr ?_; (case hd => rfl); (case hg => rfl); (case hr => first | (go_simp; done) | (go_simp; rfl)); intro gb426 hg w6 hbox hb; have BK426 := Aside0.mk (hbox); have GW426 : Aside0 (w.heap.size ≤ gb426) := gw_ hg; have GE426 : Aside0 (w.heap.size ≤ gb426) := gw_ hg; replace HB := Aside0.mk (below_step blw hb); clear hb hbox hg; have hcz7_0 : w6.cell? ⟨gb426, 0, none⟩ = some (.string a0_0) := bk_ BK426; have hcz7_1 : w6.cell? ⟨gb426, 1, none⟩ = some (.string a0_1) := bk_ BK426; have hfz7_0 := blk_frozen BK426.out 0; have hfz7_1 := blk_frozen BK426.out 1) | (go_at_call 54; (with_reducible refine (bulletinref13_Dotted.calls k a0_0 true _ A2.out).mono ?_); rintro e w8 ⟨rfl, hb⟩; replace BK426 := Aside0.mk (blk_below (g := gb426) (o := .cells #[.string a0_0, .string a0_1] 26 (0, 0)) (bkw BK426) hb); replace HB := Aside0.mk (below_step blw hb); (try clear hb); have hcz9_0 : w8.cell? ⟨gb426, 0, none⟩ = some (.string a0_0) := bk_ BK426; have hcz9_1 : w8.cell? ⟨gb426, 1, none⟩ = some (.string a0_1) := bk_ BK426; have hfz9_0 := blk_frozen BK426.out 0; have hfz9_1 := blk_frozen BK426.out 1)))
  go_ret
  exact ⟨by first | rfl | (simp [errW_none, errW_some] <;> rfl) | (simp [*, errW_none, errW_some] <;> rfl), blw⟩
 ·replace c3 := Bool.eq_false_iff.mpr c3
  subst c3
  rw [if_neg nft] at H
  replace H := Option.bind_eq_some_iff.mp H
  obtain ⟨t428, A100, H⟩ := H
  try dsimp only at H
  have A10 := Aside0.mk A100
  clear A100
  obtain ⟨c11, H⟩ := iteS H
  have c11b0 := eq_true c11
  have c11b1 := decide_eq_true c11
  try have c11b2 := eq_false (Nat.not_lt.2 c11)
  obtain ⟨c12, H⟩ := iteS H
  have c12b0 := eq_true c12
  have c12b1 := decide_eq_true c12
  try have c12b2 := eq_false (Nat.not_lt.2 c12)
  obtain rfl := Option.some.inj H
  go_enter Tryz.func33, Tryz.ntmps33
  go_wp2_with (first | ((with_reducible refine gate_dst (N := 1) rfl ?_); refine box_event ?hg (N := 1) ?hd (cs := #[.string a0_0, .string a0_1]) (t := 26) ?hr ?_; (case hd => rfl); (case hg => rfl); (case hr => first | (go_simp; done) | (go_simp; rfl)); intro gb426 hg w13 hbox hb; have BK426 := Aside0.mk (hbox); have GW426 : Aside0 (w.heap.size ≤ gb426) := gw_ hg; have GE426 : Aside0 (w.heap.size ≤ gb426) := gw_ hg; replace HB := Aside0.mk (below_step blw hb); clear hb hbox hg; have hcz14_0 : w13.cell? ⟨gb426, 0, none⟩ = some (.string a0_0) := bk_ BK426; have hcz14_1 : w13.cell? ⟨gb426, 1, none⟩ = some (.string a0_1) := bk_ BK426; have hfz14_0 := blk_frozen BK426.out 0; have hfz14_1 := blk_frozen BK426.out 1) | (go_at_call 54; (with_reducible refine (bulletinref13_Dotted.calls k a0_0 false _ A2.out).mono ?_); rintro e w15 ⟨rfl, hb⟩; replace BK426 := Aside0.mk (blk_below (g := gb426) (o := .cells #[.string a0_0, .string a0_1] 26 (0, 0)) (bkw BK426) hb); replace HB := Aside0.mk (below_step blw hb); (try clear hb); have hcz16_0 : w15.cell? ⟨gb426, 0, none⟩ = some (.string a0_0) := bk_ BK426; have hcz16_1 : w15.cell? ⟨gb426, 1, none⟩ = some (.string a0_1) := bk_ BK426; have hfz16_0 := blk_frozen BK426.out 0; have hfz16_1 := blk_frozen BK426.out 1) | (go_at_call 55; (with_reducible refine (bulletinref12_Quote.calls k a0_0 t428 _ A10.out).mono ?_); rintro e w' ⟨rfl, ⟨nd, rfl⟩⟩; (try first | exact ⟨rfl, _, World.drewN_drewN _ _ _⟩ | exact ⟨rfl, _, Eq.trans (World.drewN_drewN _ _ _) (congrArg (World.drewN _) (Nat.add_assoc _ _ _))⟩)))
  repeat (go_quiet (first | ((with_reducible refine gate_dst (N := 1) rfl ?_); refine box_event ?hg (N := 1) ?hd (cs := #[.string a0_0, .string a0_1]) (t := 26) ?hr ?_; (case hd => rfl); (case hg => rfl); (case hr => first | (go_simp; done) | (go_simp; rfl)); intro gb426 hg w13 hbox hb; have BK426 := Aside0.mk (hbox); have GW426 : Aside0 (w.heap.size ≤ gb426) := gw_ hg; have GE426 : Aside0 (w.heap.size ≤ gb426) := gw_ hg; replace HB := Aside0.mk (below_step blw hb); clear hb hbox hg; have hcz14_0 : w13.cell? ⟨gb426, 0, none⟩ = some (.string a0_0) := bk_ BK426; have hcz14_1 : w13.cell? ⟨gb426, 1, none⟩ = some (.string a0_1) := bk_ BK426; have hfz14_0 := blk_frozen BK426.out 0; have hfz14_1 := blk_frozen BK426.out 1) | (go_at_call 54; (with_reducible refine (bulletinref13_Dotted.calls k a0_0 false _ A2.out).mono ?_); rintro e w15 ⟨rfl, hb⟩; replace BK426 := Aside0.mk (blk_below (g := gb426) (o := .cells #[.string a0_0, .string a0_1] 26 (0, 0)) (bkw BK426) hb); replace HB := Aside0.mk (below_step blw hb); (try clear hb); have hcz16_0 : w15.cell? ⟨gb426, 0, none⟩ = some (.string a0_0) := bk_ BK426; have hcz16_1 : w15.cell? ⟨gb426, 1, none⟩ = some (.string a0_1) := bk_ BK426; have hfz16_0 := blk_frozen BK426.out 0; have hfz16_1 := blk_frozen BK426.out 1) | (go_at_call 55; (with_reducible refine (bulletinref12_Quote.calls k a0_0 t428 _ A10.out).mono ?_); rintro e w' ⟨rfl, ⟨nd, rfl⟩⟩; (try first | exact ⟨rfl, _, World.drewN_drewN _ _ _⟩ | exact ⟨rfl, _, Eq.trans (World.drewN_drewN _ _ _) (congrArg (World.drewN _) (Nat.add_assoc _ _ _))⟩))); try go_wp2_with (first | ((with_reducible refine gate_dst (N := 1) rfl ?_); refine box_event ?hg (N := 1) ?hd (cs := #[.string a0_0, .string a0_1]) (t := 26) ?hr ?_; (case hd => rfl); (case hg => rfl); (case hr => first | (go_simp; done) | (go_simp; rfl)); intro gb426 hg w13 hbox hb; have BK426 := Aside0.mk (hbox); have GW426 : Aside0 (w.heap.size ≤ gb426) := gw_ hg; have GE426 : Aside0 (w.heap.size ≤ gb426) := gw_ hg; replace HB := Aside0.mk (below_step blw hb); clear hb hbox hg; have hcz14_0 : w13.cell? ⟨gb426, 0, none⟩ = some (.string a0_0) := bk_ BK426; have hcz14_1 : w13.cell? ⟨gb426, 1, none⟩ = some (.string a0_1) := bk_ BK426; have hfz14_0 := blk_frozen BK426.out 0; have hfz14_1 := blk_frozen BK426.out 1) | (go_at_call 54; (with_reducible refine (bulletinref13_Dotted.calls k a0_0 false _ A2.out).mono ?_); rintro e w15 ⟨rfl, hb⟩; replace BK426 := Aside0.mk (blk_below (g := gb426) (o := .cells #[.string a0_0, .string a0_1] 26 (0, 0)) (bkw BK426) hb); replace HB := Aside0.mk (below_step blw hb); (try clear hb); have hcz16_0 : w15.cell? ⟨gb426, 0, none⟩ = some (.string a0_0) := bk_ BK426; have hcz16_1 : w15.cell? ⟨gb426, 1, none⟩ = some (.string a0_1) := bk_ BK426; have hfz16_0 := blk_frozen BK426.out 0; have hfz16_1 := blk_frozen BK426.out 1) | (go_at_call 55; (with_reducible refine (bulletinref12_Quote.calls k a0_0 t428 _ A10.out).mono ?_); rintro e w' ⟨rfl, ⟨nd, rfl⟩⟩; (try first | exact ⟨rfl, _, World.drewN_drewN _ _ _⟩ | exact ⟨rfl, _, Eq.trans (World.drewN_drewN _ _ _) (congrArg (World.drewN _) (Nat.add_assoc _ _ _))⟩))))
  go_ret
  exact ⟨by first | rfl | (simp [errW_none, errW_some] <;> rfl) | (simp [*, errW_none, errW_some] <;> rfl), blw⟩

/-! ### bulletinref22_Moment: function 39 -/
def bulletinref22_Moment.f (a0 : Int) : Option (Bool) := if a0 ≥ 0 then (some (decide (a0 ≤ 1099511627776))) else (some false)
set_option maxHeartbeats 8000000 in
set_option maxRecDepth 100000 in
theorem bulletinref22_Moment.calls (a0 : Int) (r : Bool) (w : World) (h : bulletinref22_Moment.f a0 = some r) :
    Calls Tryz.prog 39 #[.int .i64 a0] w fun e w' => e = .returned (.bool r) ∧ Drawn0 w w' := by
 unfold bulletinref22_Moment.f at h
 have H := h
 clear h
 by_cases c2 : a0 ≥ 0
 ·rw [if_pos c2] at H
  have c2b0 : decide (0 ≤ a0) = true := decide_eq_true c2
  clear c2
  obtain rfl := Option.some.inj H
  go_enter Tryz.func39, Tryz.ntmps39
  go_wp2
  go_ret
  exact ⟨eqs, drw⟩
 ·rw [if_neg c2] at H
  have c2b0 : decide (0 ≤ a0) = false := decide_eq_false c2
  clear c2
  obtain rfl := Option.some.inj H
  go_enter Tryz.func39, Tryz.ntmps39
  go_wp2
  go_ret
  exact ⟨eqs, drw⟩

/-! ### bulletinref22_Leap: function 119 -/
def bulletinref22_Leap.f (a0 : Int) : Option (Bool) := if (Int.tmod a0 400) = 0 then (some true) else (if (Int.tmod a0 100) = 0 then (some false) else (some ((Int.tmod a0 4) == 0)))
set_option maxHeartbeats 8000000 in
set_option maxRecDepth 100000 in
theorem bulletinref22_Leap.calls (a0 : Int) (r : Bool) (w : World) (h : bulletinref22_Leap.f a0 = some r) :
    Calls Tryz.prog 119 #[.int .i64 a0] w fun e w' => e = .returned (.bool r) ∧ Drawn0 w w' := by
 unfold bulletinref22_Leap.f at h
 have H := h
 clear h
 by_cases c2 : (Int.tmod a0 400) = 0
 ·rw [if_pos c2] at H
  have c2b0 := beq_iff_eq.mpr c2
  have c2b1 := bne_eq_false_iff_eq.mpr c2
  clear c2
  obtain rfl := Option.some.inj H
  go_enter Tryz.func119, Tryz.ntmps119
  go_wp2
  go_ret
  exact ⟨eqs, drw⟩
 ·rw [if_neg c2] at H
  have c2b0 := beq_eq_false_iff_ne.mpr c2
  have c2b1 := bne_iff_ne.mpr c2
  by_cases c3 : (Int.tmod a0 100) = 0
  ·rw [if_pos c3] at H
   have c3b0 := beq_iff_eq.mpr c3
   have c3b1 := bne_eq_false_iff_eq.mpr c3
   clear c3
   obtain rfl := Option.some.inj H
   go_enter Tryz.func119, Tryz.ntmps119
   go_wp2
   go_ret
   exact ⟨eqs, drw⟩
  ·rw [if_neg c3] at H
   have c3b0 := beq_eq_false_iff_ne.mpr c3
   have c3b1 := bne_iff_ne.mpr c3
   obtain rfl := Option.some.inj H
   go_enter Tryz.func119, Tryz.ntmps119
   go_wp2
   go_ret
   exact ⟨eqs, drw⟩

/-! ### bulletinref22_year: function 90 -/
def bulletinref22_year.f (a0 : Int) : Option (Int) := (bulletinref22_Leap.f a0).bind fun t429 => (if t429 = true then (some 366) else (some 365))
set_option maxHeartbeats 8000000 in
set_option maxRecDepth 100000 in
theorem bulletinref22_year.calls (a0 : Int) (r : Int) (w : World) (h : bulletinref22_year.f a0 = some r) :
    Calls Tryz.prog 90 #[.int .i64 a0] w fun e w' => e = .returned (.int .i64 r) ∧ Drawn0 w w' := by
 unfold bulletinref22_year.f at h
 have H := h
 clear h
 replace H := Option.bind_eq_some_iff.mp H
 obtain ⟨t429, A20, H⟩ := H
 try dsimp only at H
 have A2 := Aside0.mk A20
 clear A20
 by_cases c3 : t429 = true
 ·subst c3
  rw [if_pos rfl] at H
  obtain rfl := Option.some.inj H
  go_enter Tryz.func90, Tryz.ntmps90
  go_wp2_with (first | ((with_reducible refine gc 119 rfl ?_); refine cl_ (some 4) Tryz.func119 (bulletinref22_Leap.calls a0 true _ A2.out) ?_; rintro w' ⟨nd, rfl⟩))
  go_ret
  exact ⟨eqs, drw⟩
 ·replace c3 := Bool.eq_false_iff.mpr c3
  subst c3
  rw [if_neg nft] at H
  obtain rfl := Option.some.inj H
  go_enter Tryz.func90, Tryz.ntmps90
  go_wp2_with (first | ((with_reducible refine gc 119 rfl ?_); refine cl_ (some 4) Tryz.func119 (bulletinref22_Leap.calls a0 false _ A2.out) ?_; rintro w' ⟨nd, rfl⟩))
  go_ret
  exact ⟨eqs, drw⟩

/-! ### bulletinref22_Long: function 91 -/
def bulletinref22_Long.j0 : Nat → Int → Bool → Option (Int)
  | 0, _, _ => none
  | k + 1, x1, x10 => if x10 = true then (some 29) else (if x1 = 2 then (some 28) else (if x1 = 4 then (some 30) else (if x1 = 6 then (some 30) else (if x1 = 9 then (some 30) else (if x1 = 11 then (some 30) else (some 31))))))
def bulletinref22_Long.f (k : Nat) (a0 : Int) (a1 : Int) : Option (Int) := if a1 = 2 then ((bulletinref22_Leap.f a0).bind fun t430 => (bulletinref22_Long.j0 k a1 t430)) else (bulletinref22_Long.j0 k a1 false)
theorem bulletinref22_Long.mono_l : ∀ k, (∀ y0 y1, LeO (bulletinref22_Long.j0 k y0 y1) (bulletinref22_Long.j0 (k + 1) y0 y1))
  | 0 => fun _ _ r h => by simp [bulletinref22_Long.j0] at h
  | k + 1 => by
    have ih0 := bulletinref22_Long.mono_l k
    · intro y0 y1
      unfold bulletinref22_Long.j0
      repeat' first | (with_reducible first | exact ih0 _ _ | exact LeO.refl _ | exact LeO.none _ | refine LeO.ite ?_ ?_ | refine LeO.bind ?_ (fun _ => ?_)) | exact ih0 _ _ | exact LeO.none _ | refine LeO.ite ?_ ?_ | refine LeO.bind ?_ (fun _ => ?_)
theorem bulletinref22_Long.mono : ∀ a0 a1 k, LeO (bulletinref22_Long.f k a0 a1) (bulletinref22_Long.f (k + 1) a0 a1) := by
  intro a0 a1 k
  have ih0 := bulletinref22_Long.mono_l k
  unfold bulletinref22_Long.f
  repeat' first | (with_reducible first | exact ih0 _ _ | exact LeO.refl _ | exact LeO.none _ | refine LeO.ite ?_ ?_ | refine LeO.bind ?_ (fun _ => ?_)) | exact ih0 _ _ | exact LeO.none _ | refine LeO.ite ?_ ?_ | refine LeO.bind ?_ (fun _ => ?_)
set_option maxHeartbeats 8000000 in
set_option maxRecDepth 100000 in
theorem bulletinref22_Long.calls (k : Nat) (a0 : Int) (a1 : Int) (r : Int) (w : World) (h : bulletinref22_Long.f k a0 a1 = some r) :
    Calls Tryz.prog 91 #[.int .i64 a0, .int .i64 a1] w fun e w' => e = .returned (.int .i64 r) ∧ Drawn0 w w' := by
 unfold bulletinref22_Long.f at h
 have H := h
 clear h
 have HC3 := Aside0.mk H
 clear H
 go_enter Tryz.func91, Tryz.ntmps91
 go_upto_region 1 with (fail)
 go_cut [10] (fun v10 wc => ∃ (kq : Nat) (x10_2 : Bool), v10 = .bool x10_2 ∧ Aside0 (bulletinref22_Long.j0 kq a1 x10_2 = some r) ∧ Aside0 (kq ≤ k) ∧ Drawn0 w wc)
 case first =>
  have H := HC3.out
  clear HC3
  by_cases c4 : a1 = 2
  ·rw [if_pos c4] at H
   have c4b0 := beq_iff_eq.mpr c4
   have c4b1 := bne_eq_false_iff_eq.mpr c4
   clear c4
   (first | rw [c4b0] | (simp only [i64_w, i32_w]; rw [c4b0]) | skip)
   replace H := Option.bind_eq_some_iff.mp H
   obtain ⟨t430, A50, H⟩ := H
   try dsimp only at H
   have A5 := Aside0.mk A50
   clear A50
   have H' := Aside0.mk H
   clear H
   go_wp2_with (first | (go_at_call 119; (with_reducible refine (bulletinref22_Leap.calls a0 t430 _ A5.out).mono ?_); rintro e w' ⟨rfl, ⟨nd, rfl⟩⟩))
   go_meet
   case rel => exact ⟨_, (t430), eqs, H', omk, drw⟩
  ·rw [if_neg c4] at H
   have c4b0 := beq_eq_false_iff_ne.mpr c4
   have c4b1 := bne_iff_ne.mpr c4
   (first | rw [c4b0] | (simp only [i64_w, i32_w]; rw [c4b0]) | skip)
   have H' := Aside0.mk H
   clear H
   go_wp2
   go_meet
   case rel => exact ⟨_, (false), eqs, H', omk, drw⟩
 case rest =>
  clear HC3
  try clear p2
  try clear c4
  try clear c4b0
  try clear c4b1
  obtain ⟨kq, x10_2, rfl, HA, HJ2, ⟨mc2, rfl⟩⟩ := hcut
  cases kq with
  | zero => exact absurd HA.out (by simp [bulletinref22_Long.j0])
  | succ kj2 =>
   have H := HA.out
   clear HA
   simp only [bulletinref22_Long.j0] at H
   by_cases c6 : x10_2 = true
   ·subst c6
    rw [if_pos rfl] at H
    obtain rfl := Option.some.inj H
    go_wp2
    go_ret
    exact ⟨eqs, drw⟩
   ·replace c6 := Bool.eq_false_iff.mpr c6
    subst c6
    rw [if_neg nft] at H
    by_cases c7 : a1 = 2
    ·rw [if_pos c7] at H
     have c7b0 := beq_iff_eq.mpr c7
     have c7b1 := bne_eq_false_iff_eq.mpr c7
     clear c7
     obtain rfl := Option.some.inj H
     go_wp2
     go_ret
     exact ⟨eqs, drw⟩
    ·rw [if_neg c7] at H
     have c7b0 := beq_eq_false_iff_ne.mpr c7
     have c7b1 := bne_iff_ne.mpr c7
     by_cases c8 : a1 = 4
     ·rw [if_pos c8] at H
      have c8b0 := beq_iff_eq.mpr c8
      have c8b1 := bne_eq_false_iff_eq.mpr c8
      clear c8
      obtain rfl := Option.some.inj H
      go_wp2
      go_ret
      exact ⟨eqs, drw⟩
     ·rw [if_neg c8] at H
      have c8b0 := beq_eq_false_iff_ne.mpr c8
      have c8b1 := bne_iff_ne.mpr c8
      by_cases c9 : a1 = 6
      ·rw [if_pos c9] at H
       have c9b0 := beq_iff_eq.mpr c9
       have c9b1 := bne_eq_false_iff_eq.mpr c9
       clear c9
       obtain rfl := Option.some.inj H
       go_wp2
       go_ret
       exact ⟨eqs, drw⟩
      ·rw [if_neg c9] at H
       have c9b0 := beq_eq_false_iff_ne.mpr c9
       have c9b1 := bne_iff_ne.mpr c9
       by_cases c10 : a1 = 9
       ·rw [if_pos c10] at H
        have c10b0 := beq_iff_eq.mpr c10
        have c10b1 := bne_eq_false_iff_eq.mpr c10
        clear c10
        obtain rfl := Option.some.inj H
        go_wp2
        go_ret
        exact ⟨eqs, drw⟩
       ·rw [if_neg c10] at H
        have c10b0 := beq_eq_false_iff_ne.mpr c10
        have c10b1 := bne_iff_ne.mpr c10
        by_cases c11 : a1 = 11
        ·rw [if_pos c11] at H
         have c11b0 := beq_iff_eq.mpr c11
         have c11b1 := bne_eq_false_iff_eq.mpr c11
         clear c11
         obtain rfl := Option.some.inj H
         go_wp2
         go_ret
         exact ⟨eqs, drw⟩
        ·rw [if_neg c11] at H
         have c11b0 := beq_eq_false_iff_ne.mpr c11
         have c11b1 := bne_iff_ne.mpr c11
         obtain rfl := Option.some.inj H
         go_wp2
         go_ret
         exact ⟨eqs, drw⟩

end Go.Proofs.YtcpmoolpbeeedaaGreatDoor.Q
