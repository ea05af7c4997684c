-- Written by a program of this session (wip/myprint) out of the translation, for YtcgfaagadejpmaaGreatDoor.
import Derived.Test.YtcgfaagadejpmaaGreatDoorQ0
import Derived.Test.YtcgfaagadejpmaaGreatDoorQ15
namespace Go.Proofs.YtcgfaagadejpmaaGreatDoor.Q
open Go.RowKit Go.Proofs.YtcgfaagadejpmaaGreatDoorW.PrintWords Go.Proofs.YtcgfaagadejpmaaGreatDoorW.PrintLast Go.Proofs.YtcgfaagadejpmaaGreatDoorW.PrintMore Go.Proofs.YtcgfaagadejpmaaGreatDoorW.PrintSq
attribute [local go_sem] max2_int min2_int max_two min_two max_three min_three max_four min_four   -- for this text's walks alone
set_option linter.unusedVariables false
set_option linter.unusedSimpArgs false

/-! ### bulletinref48_Unescape: function 6 -/
mutual
def bulletinref48_Unescape.l0 : Nat → ByteArray → ByteArray → Int → Option (ByteArray × Bool)
  | 0, _, _, _ => none
  | k + 1, x0, x4, x5 => if x5 < (x0.size : Int) then (if 0 ≤ x5 then (if (bt x0 x5) < 32 then (bulletinref48_Unescape.j1 k x0 x4 x5 true) else (bulletinref48_Unescape.j1 k x0 x4 x5 (decide ((bt x0 x5) > 126)))) else (none)) else (some (x4, true))
def bulletinref48_Unescape.j1 : Nat → ByteArray → ByteArray → Int → Bool → Option (ByteArray × Bool)
  | 0, _, _, _, _ => none
  | k + 1, x0, x4, x5, x21 => if x21 = true then (some ((⟨#[]⟩ : ByteArray), false)) else (if 0 ≤ x5 then (if x5 < (x0.size : Int) then (if (bt x0 x5) = 92 then (if (wrap64 (x5 + 1)) = (x0.size : Int) then (some ((⟨#[]⟩ : ByteArray), false)) else (if 0 ≤ (wrap64 (x5 + 1)) then (if (wrap64 (x5 + 1)) < (x0.size : Int) then (if (bt x0 (wrap64 (x5 + 1))) = 114 then (if x4.size + 1 ≤ 9223372036854775807 then (bulletinref48_Unescape.l0 k x0 (x4 ++ (⟨#[13]⟩ : ByteArray)) (wrap64 ((wrap64 (x5 + 1)) + 1))) else (none)) else (if (bt x0 (wrap64 (x5 + 1))) = 110 then (if x4.size + 1 ≤ 9223372036854775807 then (bulletinref48_Unescape.l0 k x0 (x4 ++ (⟨#[10]⟩ : ByteArray)) (wrap64 ((wrap64 (x5 + 1)) + 1))) else (none)) else (if (bt x0 (wrap64 (x5 + 1))) = 92 then (if x4.size + 1 ≤ 9223372036854775807 then (bulletinref48_Unescape.l0 k x0 (x4 ++ (⟨#[92]⟩ : ByteArray)) (wrap64 ((wrap64 (x5 + 1)) + 1))) else (none)) else (if (bt x0 (wrap64 (x5 + 1))) = 120 then (if (wrap64 ((wrap64 (x5 + 1)) + 2)) < (x0.size : Int) then (if 0 ≤ (wrap64 ((wrap64 (x5 + 1)) + 1)) then (if (wrap64 ((wrap64 (x5 + 1)) + 1)) < (x0.size : Int) then ((bulletinref48_value.f k (bt x0 (wrap64 ((wrap64 (x5 + 1)) + 1)))).bind fun t304 => (if t304 ≥ 0 then (if 0 ≤ (wrap64 ((wrap64 (x5 + 1)) + 2)) then ((bulletinref48_value.f k (bt x0 (wrap64 ((wrap64 (x5 + 1)) + 2)))).bind fun t305 => (bulletinref48_Unescape.j2 k x0 x4 (wrap64 (x5 + 1)) (decide (t305 ≥ 0)))) else (none)) else (bulletinref48_Unescape.j2 k x0 x4 (wrap64 (x5 + 1)) false))) else (none)) else (none)) else (bulletinref48_Unescape.j2 k x0 x4 (wrap64 (x5 + 1)) false)) else (bulletinref48_Unescape.j2 k x0 x4 (wrap64 (x5 + 1)) false))))) else (none)) else (none))) else (if x5 ≤ (wrap64 (x5 + 1)) then (if (wrap64 (x5 + 1)) ≤ (x0.size : Int) then (if x4.size + ((x0.extract (x5 : Int).toNat ((wrap64 (x5 + 1)) : Int).toNat).size) ≤ 9223372036854775807 then (bulletinref48_Unescape.l0 k x0 (x4 ++ (x0.extract (x5 : Int).toNat ((wrap64 (x5 + 1)) : Int).toNat)) (wrap64 (x5 + 1))) else (none)) else (none)) else (none))) else (none)) else (none))
def bulletinref48_Unescape.j2 : Nat → ByteArray → ByteArray → Int → Bool → Option (ByteArray × Bool)
  | 0, _, _, _, _ => none
  | k + 1, x0, x4, x5, x83 => if x83 = true then (if 0 ≤ (wrap64 (x5 + 1)) then (if (wrap64 (x5 + 1)) < (x0.size : Int) then ((bulletinref48_value.f k (bt x0 (wrap64 (x5 + 1)))).bind fun t306 => (if 0 ≤ (wrap64 (x5 + 2)) then (if (wrap64 (x5 + 2)) < (x0.size : Int) then ((bulletinref48_value.f k (bt x0 (wrap64 (x5 + 2)))).bind fun t307 => ((some (([(wrap64 ((wrap64 (16 * t306)) + t307)) % 256] : List Int) : List Int)).bind fun y308 => (if x4.size + (strOfNums y308).size ≤ 9223372036854775807 then (bulletinref48_Unescape.l0 k x0 (x4 ++ (strOfNums y308)) (wrap64 ((wrap64 (x5 + 2)) + 1))) else (none)))) else (none)) else (none))) else (none)) else (none)) else (some ((⟨#[]⟩ : ByteArray), false))
end
def bulletinref48_Unescape.f (k : Nat) (a0 : ByteArray) : Option (ByteArray × Bool) := bulletinref48_Unescape.l0 k a0 (⟨#[]⟩ : ByteArray) 0
theorem bulletinref48_Unescape.mono_l : ∀ k, (∀ y0 y1 y2, LeO (bulletinref48_Unescape.l0 k y0 y1 y2) (bulletinref48_Unescape.l0 (k + 1) y0 y1 y2)) ∧ (∀ y0 y1 y2 y3, LeO (bulletinref48_Unescape.j1 k y0 y1 y2 y3) (bulletinref48_Unescape.j1 (k + 1) y0 y1 y2 y3)) ∧ (∀ y0 y1 y2 y3, LeO (bulletinref48_Unescape.j2 k y0 y1 y2 y3) (bulletinref48_Unescape.j2 (k + 1) y0 y1 y2 y3))
  | 0 => ⟨fun _ _ _ r h => by simp [bulletinref48_Unescape.l0] at h, fun _ _ _ _ r h => by simp [bulletinref48_Unescape.j1] at h, fun _ _ _ _ r h => by simp [bulletinref48_Unescape.j2] at h⟩
  | k + 1 => by
    obtain ⟨ih0, ih1, ih2⟩ := bulletinref48_Unescape.mono_l k
    refine ⟨?_, ?_, ?_⟩
    · intro y0 y1 y2
      unfold bulletinref48_Unescape.l0
      repeat' first | (with_reducible first | exact ih0 _ _ _ | exact ih1 _ _ _ _ | exact ih2 _ _ _ _ | exact bulletinref48_value.mono _ _ | exact LeO.refl _ | exact LeO.none _ | refine LeO.ite ?_ ?_ | refine LeO.bind ?_ (fun _ => ?_)) | exact ih0 _ _ _ | exact ih1 _ _ _ _ | exact ih2 _ _ _ _ | exact bulletinref48_value.mono _ _ | exact LeO.none _ | refine LeO.ite ?_ ?_ | refine LeO.bind ?_ (fun _ => ?_)
    · intro y0 y1 y2 y3
      unfold bulletinref48_Unescape.j1
      repeat' first | (with_reducible first | exact ih0 _ _ _ | exact ih1 _ _ _ _ | exact ih2 _ _ _ _ | exact bulletinref48_value.mono _ _ | exact LeO.refl _ | exact LeO.none _ | refine LeO.ite ?_ ?_ | refine LeO.bind ?_ (fun _ => ?_)) | exact ih0 _ _ _ | exact ih1 _ _ _ _ | exact ih2 _ _ _ _ | exact bulletinref48_value.mono _ _ | exact LeO.none _ | refine LeO.ite ?_ ?_ | refine LeO.bind ?_ (fun _ => ?_)
    · intro y0 y1 y2 y3
      unfold bulletinref48_Unescape.j2
      repeat' first | (with_reducible first | exact ih0 _ _ _ | exact ih1 _ _ _ _ | exact ih2 _ _ _ _ | exact bulletinref48_value.mono _ _ | exact LeO.refl _ | exact LeO.none _ | refine LeO.ite ?_ ?_ | refine LeO.bind ?_ (fun _ => ?_)) | exact ih0 _ _ _ | exact ih1 _ _ _ _ | exact ih2 _ _ _ _ | exact bulletinref48_value.mono _ _ | exact LeO.none _ | refine LeO.ite ?_ ?_ | refine LeO.bind ?_ (fun _ => ?_)
theorem bulletinref48_Unescape.mono : ∀ a0 k, LeO (bulletinref48_Unescape.f k a0) (bulletinref48_Unescape.f (k + 1) a0) := by
  intro a0 k
  obtain ⟨ih0, ih1, ih2⟩ := bulletinref48_Unescape.mono_l k
  unfold bulletinref48_Unescape.f
  repeat' first | (with_reducible first | exact ih0 _ _ _ | exact ih1 _ _ _ _ | exact ih2 _ _ _ _ | exact bulletinref48_value.mono _ _ | exact LeO.refl _ | exact LeO.none _ | refine LeO.ite ?_ ?_ | refine LeO.bind ?_ (fun _ => ?_)) | exact ih0 _ _ _ | exact ih1 _ _ _ _ | exact ih2 _ _ _ _ | exact bulletinref48_value.mono _ _ | exact LeO.none _ | refine LeO.ite ?_ ?_ | refine LeO.bind ?_ (fun _ => ?_)
def bulletinref48_Unescape.T19 : Bool × List (List Nat × List Nat) := (true, [([], []), ([], []), ([], []), ([2], [2]), ([1, 3], [1, 3]), ([4], [4]), ([5], [5]), ([], []), ([], []), ([8], [8]), ([7, 9], [7, 9]), ([10, 5], [10]), ([6, 11], [6, 11]), ([12], [12]), ([13], [13]), ([14], [14]), ([0, 15], [0, 15]), ([16, 11, 0, 1, 2, 3, 4, 5, 6, 7, 8, 9, 10, 11, 12, 13, 14, 15, 16], [0, 16])])
def bulletinref48_Unescape.B19 : List Nat := [0, 0, 0, 4, 14, 30, 62, 0, 0, 256, 896, 1982, 4094, 8190, 16382, 32766, 65535, 131071]
theorem bulletinref48_Unescape.tab19 : rtab .any (opsOf Tryz.f6 19) = bulletinref48_Unescape.T19 := by kernel_rfl
theorem bulletinref48_Unescape.bits19 : waitsOk bulletinref48_Unescape.T19.2 bulletinref48_Unescape.B19 = true := by kernel_rfl
set_option maxHeartbeats 8000000 in
set_option maxRecDepth 100000 in
theorem bulletinref48_Unescape.calls (k : Nat) (a0 : ByteArray) (r1 : ByteArray) (r2 : Bool) (w : World) (h : bulletinref48_Unescape.f k a0 = some (r1, r2)) :
    Calls Tryz.prog 6 #[.string a0] w fun e w' => e = .returned (.tuple #[.string r1, .bool r2]) ∧ Below w.heap.size w w' := by
 have HB := Aside0.mk (Below.refl w.heap.size w)
 unfold bulletinref48_Unescape.f at h
 have H := h
 clear h
 have H' := Aside0.mk H
 clear H
 go_enter Tryz.func6, Tryz.ntmps6
 go_wp2
 go_loopg [4, 5] k (fun kq v4 v5 w' => ∃ (x4_1 : ByteArray) (x5_1 : Int), v4 = .string x4_1 ∧ v5 = .int .i64 x5_1 ∧ Aside0 (bulletinref48_Unescape.l0 kq a0 x4_1 x5_1 = some (r1, r2)) ∧ Aside0 (kq ≤ k) ∧ Aside0 (Below w.heap.size w w'))
 case atStart => exact ⟨((⟨#[]⟩ : ByteArray)), (0), eqs, eqs, H', ⟨Nat.le_refl _⟩, ⟨blw⟩⟩
 case round =>
  clear H'
  obtain ⟨x4_1, x5_1, rfl, rfl, HA, HK1, HB⟩ := hrel
  cases gk with
  | zero => exact absurd HA.out (by simp [bulletinref48_Unescape.l0])
  | succ k1 =>
   have H := HA.out
   clear HA
   simp only [bulletinref48_Unescape.l0] at H
   by_cases c2 : x5_1 < (a0.size : Int)
   ·rw [if_pos c2] at H
    have c2b0 := decide_eq_true c2
    clear c2
    have HC3 := Aside0.mk H
    clear H
    go_upto_region 5 with (fail)
    go_cut [21] (fun v21 wc => ∃ (kq : Nat) (x21_2 : Bool), v21 = .bool x21_2 ∧ Aside0 (bulletinref48_Unescape.j1 kq a0 x4_1 x5_1 x21_2 = some (r1, r2)) ∧ Aside0 (kq ≤ k1) ∧ Aside0 (Below w.heap.size w wc))
    case first =>
     have H := HC3.out
     clear HC3
     obtain ⟨c4, H⟩ := iteS H
     have c4b0 := decide_eq_true c4
     clear c4
     (first | rw [c4b0] | (simp only [i64_w, i32_w]; rw [c4b0]) | skip)
     by_cases c6 : (bt a0 x5_1) < 32
     ·rw [if_pos c6] at H
      have c6b0 := decide_eq_true c6
      clear c6
      have H' := Aside0.mk H
      clear H
      have p5 : 0 ≤ (x5_1 : Int) := od_
      have q5 : x5_1 < (a0.size : Int) := od_
      have hx5 := bt_at a0 x5_1
      replace p5 := eq_true p5
      replace q5 := eq_true q5
      go_wp2
      go_meet
      case rel => exact ⟨_, (true), eqs, H', ⟨by have := HK1.out; first | omega | exact Nat.le_refl _⟩, ⟨blw⟩⟩
     ·rw [if_neg c6] at H
      have c6b0 := decide_eq_false c6
      clear c6
      have H' := Aside0.mk H
      clear H
      have p5 : 0 ≤ (x5_1 : Int) := od_
      have q5 : x5_1 < (a0.size : Int) := od_
      have hx5 := bt_at a0 x5_1
      replace p5 := eq_true p5
      replace q5 := eq_true q5
      have p7 : 0 ≤ (x5_1 : Int) := od_
      have q7 : x5_1 < (a0.size : Int) := od_
      have hx7 := bt_at a0 x5_1
      replace p7 := eq_true p7
      replace q7 := eq_true q7
      go_wp2
      go_meet
      case rel => exact ⟨_, (decide ((bt a0 x5_1) > 126)), eqs, H', ⟨by have := HK1.out; first | omega | exact Nat.le_refl _⟩, ⟨blw⟩⟩
    case rest =>
     clear HC3
     try clear c2
     try clear c2b0
     try clear p2
     try clear c4
     try clear c4b0
     try clear p5
     try clear q5
     try clear hx5
     try clear c6
     try clear c6b0
     try clear p7
     try clear q7
     try clear hx7
     try clear p5
     try clear p7
     try clear q5
     try clear q7
     obtain ⟨kq, x21_2, rfl, HA, HJ2, HB⟩ := hcut
     cases kq with
     | zero => exact absurd HA.out (by simp [bulletinref48_Unescape.j1])
     | succ kj2 =>
      have H := HA.out
      clear HA
      simp only [bulletinref48_Unescape.j1] at H
      by_cases c8 : x21_2 = true
      ·subst c8
       rw [if_pos rfl] at H
       simp only [Option.some.injEq, Prod.mk.injEq] at H
       obtain ⟨rfl, rfl⟩ := H
       go_wp2
       go_ret2
       exact ⟨by first | rfl | (simp [errW_none, errW_some] <;> rfl) | (simp [*, errW_none, errW_some] <;> rfl), blw⟩
      ·replace c8 := Bool.eq_false_iff.mpr c8
       subst c8
       rw [if_neg nft] at H
       obtain ⟨c9, H⟩ := iteS H
       have c9b0 := decide_eq_true c9
       clear c9
       obtain ⟨c10, H⟩ := iteS H
       have c10b0 := decide_eq_true c10
       clear c10
       by_cases c12 : (bt a0 x5_1) = 92
       ·rw [if_pos c12] at H
        have c12b0 := beq_iff_eq.mpr c12
        have c12b1 := bne_eq_false_iff_eq.mpr c12
        clear c12
        by_cases c13 : (wrap64 (x5_1 + 1)) = (a0.size : Int)
        ·rw [if_pos c13] at H
         have c13b0 := beq_iff_eq.mpr c13
         have c13b1 := bne_eq_false_iff_eq.mpr c13
         clear c13
         simp only [Option.some.injEq, Prod.mk.injEq] at H
         obtain ⟨rfl, rfl⟩ := H
         have p11 : 0 ≤ (x5_1 : Int) := od_
         have q11 : x5_1 < (a0.size : Int) := od_
         have hx11 := bt_at a0 x5_1
         replace p11 := eq_true p11
         replace q11 := eq_true q11
         go_wp2
         go_ret2
         exact ⟨by first | rfl | (simp [errW_none, errW_some] <;> rfl) | (simp [*, errW_none, errW_some] <;> rfl), blw⟩
        ·rw [if_neg c13] at H
         have c13b0 := beq_eq_false_iff_ne.mpr c13
         have c13b1 := bne_iff_ne.mpr c13
         obtain ⟨ji14, hji14⟩ : ∃ j_ : Int, (wrap64 (x5_1 + 1)) = j_ := ⟨_, rfl⟩
         replace H : (if 0 ≤ (ji14) then (if (ji14) < (a0.size : Int) then (if (bt a0 (ji14)) = 114 then (if x4_1.size + 1 ≤ 9223372036854775807 then (bulletinref48_Unescape.l0 kj2 a0 (x4_1 ++ (⟨#[13]⟩ : ByteArray)) (wrap64 ((ji14) + 1))) else (none)) else (if (bt a0 (ji14)) = 110 then (if x4_1.size + 1 ≤ 9223372036854775807 then (bulletinref48_Unescape.l0 kj2 a0 (x4_1 ++ (⟨#[10]⟩ : ByteArray)) (wrap64 ((ji14) + 1))) else (none)) else (if (bt a0 (ji14)) = 92 then (if x4_1.size + 1 ≤ 9223372036854775807 then (bulletinref48_Unescape.l0 kj2 a0 (x4_1 ++ (⟨#[92]⟩ : ByteArray)) (wrap64 ((ji14) + 1))) else (none)) else (if (bt a0 (ji14)) = 120 then (if (wrap64 ((ji14) + 2)) < (a0.size : Int) then (if 0 ≤ (wrap64 ((ji14) + 1)) then (if (wrap64 ((ji14) + 1)) < (a0.size : Int) then ((bulletinref48_value.f kj2 (bt a0 (wrap64 ((ji14) + 1)))).bind fun t304 => (if t304 ≥ 0 then (if 0 ≤ (wrap64 ((ji14) + 2)) then ((bulletinref48_value.f kj2 (bt a0 (wrap64 ((ji14) + 2)))).bind fun t305 => (bulletinref48_Unescape.j2 kj2 a0 x4_1 ji14 (decide (t305 ≥ 0)))) else (none)) else (bulletinref48_Unescape.j2 kj2 a0 x4_1 ji14 false))) else (none)) else (none)) else (bulletinref48_Unescape.j2 kj2 a0 x4_1 ji14 false)) else (bulletinref48_Unescape.j2 kj2 a0 x4_1 ji14 false))))) else (none)) else (none)) = some (r1, r2) := by first | (rw [hji14] at H; exact H) | (simp only [hji14] at H ⊢; exact H)
         (try rw [hji14] at c13b0)
         (try rw [hji14] at c13b1)
         have hji14w : (IntKind.i64.wrap (x5_1 + 1)) = ji14 := (i64_w _).trans hji14
         obtain ⟨c15, H⟩ := iteS H
         have c15b0 := decide_eq_true c15
         clear c15
         obtain ⟨c16, H⟩ := iteS H
         have c16b0 := decide_eq_true c16
         clear c16
         by_cases c18 : (bt a0 (ji14)) = 114
         ·rw [if_pos c18] at H
          have c18b0 := beq_iff_eq.mpr c18
          have c18b1 := bne_eq_false_iff_eq.mpr c18
          clear c18
          obtain ⟨c19, H⟩ := iteS H
          have c19b0 := eq_true c19
          have c19b1 := decide_eq_true c19
          try have c19b2 := eq_false (Nat.not_lt.2 c19)
          have H' := Aside0.mk H
          clear H
          have p11 : 0 ≤ (x5_1 : Int) := od_
          have q11 : x5_1 < (a0.size : Int) := od_
          have hx11 := bt_at a0 x5_1
          replace p11 := eq_true p11
          replace q11 := eq_true q11
          have p17 : 0 ≤ ((ji14) : Int) := od_
          have q17 : (ji14) < (a0.size : Int) := od_
          have hx17 := bt_at a0 (ji14)
          replace p17 := eq_true p17
          replace q17 := eq_true q17
          go_wp2
          go_roundg kj2
          case measure => have := HK1.out; have := HJ2.out; omega
          case rel => exact ⟨(x4_1 ++ (⟨#[13]⟩ : ByteArray)), (wrap64 ((ji14) + 1)), eqs, (by first | rfl | (simp; done) | (simp only [← hji14] <;> (first | rfl | simp)) | (simp [*]; done)), H', ⟨by have := HK1.out; have := HJ2.out; omega⟩, ⟨blw⟩⟩
         ·rw [if_neg c18] at H
          have c18b0 := beq_eq_false_iff_ne.mpr c18
          have c18b1 := bne_iff_ne.mpr c18
          by_cases c21 : (bt a0 (ji14)) = 110
          ·rw [if_pos c21] at H
           have c21b0 := beq_iff_eq.mpr c21
           have c21b1 := bne_eq_false_iff_eq.mpr c21
           clear c21
           obtain ⟨c22, H⟩ := iteS H
           have c22b0 := eq_true c22
           have c22b1 := decide_eq_true c22
           try have c22b2 := eq_false (Nat.not_lt.2 c22)
           have H' := Aside0.mk H
           clear H
           have p11 : 0 ≤ (x5_1 : Int) := od_
           have q11 : x5_1 < (a0.size : Int) := od_
           have hx11 := bt_at a0 x5_1
           replace p11 := eq_true p11
           replace q11 := eq_true q11
           have p17 : 0 ≤ ((ji14) : Int) := od_
           have q17 : (ji14) < (a0.size : Int) := od_
           have hx17 := bt_at a0 (ji14)
           replace p17 := eq_true p17
           replace q17 := eq_true q17
           have p20 : 0 ≤ ((ji14) : Int) := od_
           have q20 : (ji14) < (a0.size : Int) := od_
           have hx20 := bt_at a0 (ji14)
           replace p20 := eq_true p20
           replace q20 := eq_true q20
           go_wp2
           go_roundg kj2
           case measure => have := HK1.out; have := HJ2.out; omega
           case rel => exact ⟨(x4_1 ++ (⟨#[10]⟩ : ByteArray)), (wrap64 ((ji14) + 1)), eqs, (by first | rfl | (simp; done) | (simp only [← hji14] <;> (first | rfl | simp)) | (simp [*]; done)), H', ⟨by have := HK1.out; have := HJ2.out; omega⟩, ⟨blw⟩⟩
          ·rw [if_neg c21] at H
           have c21b0 := beq_eq_false_iff_ne.mpr c21
           have c21b1 := bne_iff_ne.mpr c21
           by_cases c24 : (bt a0 (ji14)) = 92
           ·rw [if_pos c24] at H
            have c24b0 := beq_iff_eq.mpr c24
            have c24b1 := bne_eq_false_iff_eq.mpr c24
            clear c24
            obtain ⟨c25, H⟩ := iteS H
            have c25b0 := eq_true c25
            have c25b1 := decide_eq_true c25
            try have c25b2 := eq_false (Nat.not_lt.2 c25)
            have H' := Aside0.mk H
            clear H
            have p11 : 0 ≤ (x5_1 : Int) := od_
            have q11 : x5_1 < (a0.size : Int) := od_
            have hx11 := bt_at a0 x5_1
            replace p11 := eq_true p11
            replace q11 := eq_true q11
            have p17 : 0 ≤ ((ji14) : Int) := od_
            have q17 : (ji14) < (a0.size : Int) := od_
            have hx17 := bt_at a0 (ji14)
            replace p17 := eq_true p17
            replace q17 := eq_true q17
            have p20 : 0 ≤ ((ji14) : Int) := od_
            have q20 : (ji14) < (a0.size : Int) := od_
            have hx20 := bt_at a0 (ji14)
            replace p20 := eq_true p20
            replace q20 := eq_true q20
            have p23 : 0 ≤ ((ji14) : Int) := od_
            have q23 : (ji14) < (a0.size : Int) := od_
            have hx23 := bt_at a0 (ji14)
            replace p23 := eq_true p23
            replace q23 := eq_true q23
            go_wp2
            go_roundg kj2
            case measure => have := HK1.out; have := HJ2.out; omega
            case rel => exact ⟨(x4_1 ++ (⟨#[92]⟩ : ByteArray)), (wrap64 ((ji14) + 1)), eqs, (by first | rfl | (simp; done) | (simp only [← hji14] <;> (first | rfl | simp)) | (simp [*]; done)), H', ⟨by have := HK1.out; have := HJ2.out; omega⟩, ⟨blw⟩⟩
           ·rw [if_neg c24] at H
            have c24b0 := beq_eq_false_iff_ne.mpr c24
            have c24b1 := bne_iff_ne.mpr c24
            have HC26 := Aside0.mk H
            clear H
            have p11 : 0 ≤ (x5_1 : Int) := od_
            have q11 : x5_1 < (a0.size : Int) := od_
            have hx11 := bt_at a0 x5_1
            replace p11 := eq_true p11
            replace q11 := eq_true q11
            have p17 : 0 ≤ ((ji14) : Int) := od_
            have q17 : (ji14) < (a0.size : Int) := od_
            have hx17 := bt_at a0 (ji14)
            replace p17 := eq_true p17
            replace q17 := eq_true q17
            have p20 : 0 ≤ ((ji14) : Int) := od_
            have q20 : (ji14) < (a0.size : Int) := od_
            have hx20 := bt_at a0 (ji14)
            replace p20 := eq_true p20
            replace q20 := eq_true q20
            have p23 : 0 ≤ ((ji14) : Int) := od_
            have q23 : (ji14) < (a0.size : Int) := od_
            have hx23 := bt_at a0 (ji14)
            replace p23 := eq_true p23
            replace q23 := eq_true q23
            go_upto_region 18 with (fail)
            go_cut [83] (fun v83 wc => ∃ (kq : Nat) (x83_25 : Bool), v83 = .bool x83_25 ∧ Aside0 (bulletinref48_Unescape.j2 kq a0 x4_1 ji14 x83_25 = some (r1, r2)) ∧ Aside0 (kq ≤ kj2) ∧ Aside0 (Below w.heap.size w wc))
            case first =>
             have H := HC26.out
             clear HC26
             by_cases c28 : (bt a0 (ji14)) = 120
             ·rw [if_pos c28] at H
              have c28b0 := beq_iff_eq.mpr c28
              have c28b1 := bne_eq_false_iff_eq.mpr c28
              clear c28
              (first | rw [c28b0] | (simp only [i64_w, i32_w]; rw [c28b0]) | skip)
              by_cases c29 : (wrap64 ((ji14) + 2)) < (a0.size : Int)
              ·rw [if_pos c29] at H
               have c29b0 := decide_eq_true c29
               clear c29
               obtain ⟨ji30, hji30⟩ : ∃ j_ : Int, (wrap64 ((ji14) + 1)) = j_ := ⟨_, rfl⟩
               replace H : (if 0 ≤ (ji30) then (if (ji30) < (a0.size : Int) then ((bulletinref48_value.f kj2 (bt a0 (ji30))).bind fun t304 => (if t304 ≥ 0 then (if 0 ≤ (wrap64 ((ji14) + 2)) then ((bulletinref48_value.f kj2 (bt a0 (wrap64 ((ji14) + 2)))).bind fun t305 => (bulletinref48_Unescape.j2 kj2 a0 x4_1 ji14 (decide (t305 ≥ 0)))) else (none)) else (bulletinref48_Unescape.j2 kj2 a0 x4_1 ji14 false))) else (none)) else (none)) = some (r1, r2) := by first | (rw [hji30] at H; exact H) | (simp only [hji30] at H ⊢; exact H)
               have hji30w : (IntKind.i64.wrap ((ji14) + 1)) = ji30 := (i64_w _).trans hji30
               obtain ⟨c31, H⟩ := iteS H
               have c31b0 := decide_eq_true c31
               clear c31
               obtain ⟨c32, H⟩ := iteS H
               have c32b0 := decide_eq_true c32
               clear c32
               replace H := Option.bind_eq_some_iff.mp H
               obtain ⟨t304, A340, H⟩ := H
               try dsimp only at H
               have A34 := Aside0.mk A340
               clear A340
               by_cases c35 : t304 ≥ 0
               ·rw [if_pos c35] at H
                have c35b0 : decide (0 ≤ t304) = true := decide_eq_true c35
                clear c35
                obtain ⟨ji36, hji36⟩ : ∃ j_ : Int, (wrap64 ((ji14) + 2)) = j_ := ⟨_, rfl⟩
                replace H : (if 0 ≤ (ji36) then ((bulletinref48_value.f kj2 (bt a0 (ji36))).bind fun t305 => (bulletinref48_Unescape.j2 kj2 a0 x4_1 ji14 (decide (t305 ≥ 0)))) else (none)) = some (r1, r2) := by first | (rw [hji36] at H; exact H) | (simp only [hji36] at H ⊢; exact H)
                (try rw [hji36] at c29b0)
                (try rw [hji36] at A34)
                have hji36w : (IntKind.i64.wrap ((ji14) + 2)) = ji36 := (i64_w _).trans hji36
                obtain ⟨c37, H⟩ := iteS H
                have c37b0 := decide_eq_true c37
                clear c37
                replace H := Option.bind_eq_some_iff.mp H
                obtain ⟨t305, A390, H⟩ := H
                try dsimp only at H
                have A39 := Aside0.mk A390
                clear A390
                have H' := Aside0.mk H
                clear H
                have p27 : 0 ≤ ((ji14) : Int) := od_
                have q27 : (ji14) < (a0.size : Int) := od_
                have hx27 := bt_at a0 (ji14)
                replace p27 := eq_true p27
                replace q27 := eq_true q27
                have p33 : 0 ≤ ((ji30) : Int) := od_
                have q33 : (ji30) < (a0.size : Int) := od_
                have hx33 := bt_at a0 (ji30)
                replace p33 := eq_true p33
                replace q33 := eq_true q33
                go_wp2_with (first | (go_at_call 14; (with_reducible refine (bulletinref48_value.calls kj2 (bt a0 (ji30)) t304 _ A34.out).mono ?_); rintro e w' ⟨rfl, ⟨nd, rfl⟩⟩; have p38 : 0 ≤ ((ji36) : Int) := od_; have q38 : (ji36) < (a0.size : Int) := od_; have hx38 := bt_at a0 (ji36); replace p38 := eq_true p38; replace q38 := eq_true q38) | (go_at_call 14; (with_reducible refine (bulletinref48_value.calls kj2 (bt a0 (ji36)) t305 _ A39.out).mono ?_); rintro e w' ⟨rfl, ⟨nd, rfl⟩⟩))
                go_meet
                case rel => exact ⟨_, (decide (t305 ≥ 0)), eqs, H', ⟨by have := HK1.out; have := HJ2.out; first | omega | exact Nat.le_refl _⟩, ⟨blw⟩⟩
               ·rw [if_neg c35] at H
                have c35b0 : decide (0 ≤ t304) = false := decide_eq_false c35
                clear c35
                have H' := Aside0.mk H
                clear H
                have p27 : 0 ≤ ((ji14) : Int) := od_
                have q27 : (ji14) < (a0.size : Int) := od_
                have hx27 := bt_at a0 (ji14)
                replace p27 := eq_true p27
                replace q27 := eq_true q27
                have p33 : 0 ≤ ((ji30) : Int) := od_
                have q33 : (ji30) < (a0.size : Int) := od_
                have hx33 := bt_at a0 (ji30)
                replace p33 := eq_true p33
                replace q33 := eq_true q33
                go_wp2_with (first | (go_at_call 14; (with_reducible refine (bulletinref48_value.calls kj2 (bt a0 (ji30)) t304 _ A34.out).mono ?_); rintro e w' ⟨rfl, ⟨nd, rfl⟩⟩))
                go_meet
                case rel => exact ⟨_, (false), eqs, H', ⟨by have := HK1.out; have := HJ2.out; first | omega | exact Nat.le_refl _⟩, ⟨blw⟩⟩
              ·rw [if_neg c29] at H
               have c29b0 := decide_eq_false c29
               clear c29
               have H' := Aside0.mk H
               clear H
               have p27 : 0 ≤ ((ji14) : Int) := od_
               have q27 : (ji14) < (a0.size : Int) := od_
               have hx27 := bt_at a0 (ji14)
               replace p27 := eq_true p27
               replace q27 := eq_true q27
               go_wp2
               go_meet
               case rel => exact ⟨_, (false), eqs, H', ⟨by have := HK1.out; have := HJ2.out; first | omega | exact Nat.le_refl _⟩, ⟨blw⟩⟩
             ·rw [if_neg c28] at H
              have c28b0 := beq_eq_false_iff_ne.mpr c28
              have c28b1 := bne_iff_ne.mpr c28
              (first | rw [c28b0] | (simp only [i64_w, i32_w]; rw [c28b0]) | skip)
              have H' := Aside0.mk H
              clear H
              have p27 : 0 ≤ ((ji14) : Int) := od_
              have q27 : (ji14) < (a0.size : Int) := od_
              have hx27 := bt_at a0 (ji14)
              replace p27 := eq_true p27
              replace q27 := eq_true q27
              go_wp2
              go_meet
              case rel => exact ⟨_, (false), eqs, H', ⟨by have := HK1.out; have := HJ2.out; first | omega | exact Nat.le_refl _⟩, ⟨blw⟩⟩
            case rest =>
             clear HC26
             try clear c1
             try clear p1
             try clear q1
             try clear hx1
             try clear c2
             try clear c2b0
             try clear p2
             try clear q2
             try clear hx2
             try clear c3
             try clear p3
             try clear q3
             try clear hx3
             try clear c4
             try clear c4b0
             try clear p5
             try clear q5
             try clear hx5
             try clear c6
             try clear c6b0
             try clear p6
             try clear p7
             try clear q7
             try clear hx7
             try clear c8
             try clear c9
             try clear c9b0
             try clear c10
             try clear c10b0
             try clear p11
             try clear q11
             try clear hx11
             try clear c12
             try clear c12b0
             try clear c12b1
             try clear c13
             try clear c13b0
             try clear c13b1
             try clear c15
             try clear c15b0
             try clear c16
             try clear c16b0
             try clear p17
             try clear q17
             try clear hx17
             try clear c18
             try clear c18b0
             try clear c18b1
             try clear c19
             try clear c19b0
             try clear c19b1
             try clear c19b2
             try clear p20
             try clear q20
             try clear hx20
             try clear c21
             try clear c21b0
             try clear c21b1
             try clear c22
             try clear c22b0
             try clear c22b1
             try clear c22b2
             try clear p23
             try clear q23
             try clear hx23
             try clear c24
             try clear c24b0
             try clear c24b1
             try clear c25
             try clear c25b0
             try clear c25b1
             try clear c25b2
             try clear p27
             try clear q27
             try clear hx27
             try clear c28
             try clear c28b0
             try clear c28b1
             try clear c29
             try clear c29b0
             try clear c31
             try clear c31b0
             try clear c32
             try clear c32b0
             try clear p33
             try clear q33
             try clear hx33
             try clear c35
             try clear c35b0
             try clear c37
             try clear c37b0
             try clear p38
             try clear q38
             try clear hx38
             try clear p11
             try clear p17
             try clear p2
             try clear p20
             try clear p23
             try clear p27
             try clear p33
             try clear p38
             try clear p5
             try clear p7
             try clear q11
             try clear q17
             try clear q20
             try clear q23
             try clear q27
             try clear q33
             try clear q38
             try clear q5
             try clear q7
             obtain ⟨kq, x83_25, rfl, HA, HJ25, HB⟩ := hcut
             cases kq with
             | zero => exact absurd HA.out (by simp [bulletinref48_Unescape.j2])
             | succ kj25 =>
              have H := HA.out
              clear HA
              simp only [bulletinref48_Unescape.j2] at H
              by_cases c40 : x83_25 = true
              ·subst c40
               rw [if_pos rfl] at H
               obtain ⟨ji41, hji41⟩ : ∃ j_ : Int, (wrap64 (ji14 + 1)) = j_ := ⟨_, rfl⟩
               replace H : (if 0 ≤ (ji41) then (if (ji41) < (a0.size : Int) then ((bulletinref48_value.f kj25 (bt a0 (ji41))).bind fun t306 => (if 0 ≤ (wrap64 (ji14 + 2)) then (if (wrap64 (ji14 + 2)) < (a0.size : Int) then ((bulletinref48_value.f kj25 (bt a0 (wrap64 (ji14 + 2)))).bind fun t307 => ((some (([(wrap64 ((wrap64 (16 * t306)) + t307)) % 256] : List Int) : List Int)).bind fun y308 => (if x4_1.size + (strOfNums y308).size ≤ 9223372036854775807 then (bulletinref48_Unescape.l0 kj25 a0 (x4_1 ++ (strOfNums y308)) (wrap64 ((wrap64 (ji14 + 2)) + 1))) else (none)))) else (none)) else (none))) else (none)) else (none)) = some (r1, r2) := by first | (rw [hji41] at H; exact H) | (simp only [hji41] at H ⊢; exact H)
               have hji41w : (IntKind.i64.wrap (ji14 + 1)) = ji41 := (i64_w _).trans hji41
               obtain ⟨c42, H⟩ := iteS H
               have c42b0 := decide_eq_true c42
               clear c42
               obtain ⟨c43, H⟩ := iteS H
               have c43b0 := decide_eq_true c43
               clear c43
               replace H := Option.bind_eq_some_iff.mp H
               obtain ⟨t306, A450, H⟩ := H
               try dsimp only at H
               have A45 := Aside0.mk A450
               clear A450
               obtain ⟨ji46, hji46⟩ : ∃ j_ : Int, (wrap64 (ji14 + 2)) = j_ := ⟨_, rfl⟩
               replace H : (if 0 ≤ (ji46) then (if (ji46) < (a0.size : Int) then ((bulletinref48_value.f kj25 (bt a0 (ji46))).bind fun t307 => ((some (([(wrap64 ((wrap64 (16 * t306)) + t307)) % 256] : List Int) : List Int)).bind fun y308 => (if x4_1.size + (strOfNums y308).size ≤ 9223372036854775807 then (bulletinref48_Unescape.l0 kj25 a0 (x4_1 ++ (strOfNums y308)) (wrap64 ((ji46) + 1))) else (none)))) else (none)) else (none)) = some (r1, r2) := by first | (rw [hji46] at H; exact H) | (simp only [hji46] at H ⊢; exact H)
               (try rw [hji46] at A45)
               have hji46w : (IntKind.i64.wrap (ji14 + 2)) = ji46 := (i64_w _).trans hji46
               obtain ⟨c47, H⟩ := iteS H
               have c47b0 := decide_eq_true c47
               clear c47
               obtain ⟨c48, H⟩ := iteS H
               have c48b0 := decide_eq_true c48
               clear c48
               replace H := Option.bind_eq_some_iff.mp H
               obtain ⟨t307, A500, H⟩ := H
               try dsimp only at H
               have A50 := Aside0.mk A500
               clear A500
               obtain ⟨y308, hy308⟩ : ∃ y_ : List Int, y_ = (([(wrap64 ((wrap64 (16 * t306)) + t307)) % 256] : List Int)) := ⟨_, rfl⟩
               replace H : (if x4_1.size + (strOfNums y308).size ≤ 9223372036854775807 then (bulletinref48_Unescape.l0 kj25 a0 (x4_1 ++ (strOfNums y308)) (wrap64 ((ji46) + 1))) else (none)) = some (r1, r2) := by first | (rw [hy308]; with_reducible exact H) | (have H2_ := (Option.bind_some _ _).symm.trans H; rw [hy308]; with_reducible exact H2_) | (have H2_ := (Option.bind_some _ _).symm.trans H; with_reducible exact H2_) | with_reducible exact H | (rw [hy308]; exact H) | exact H
               have Ny308 := Aside0.mk hy308
               clear hy308
               obtain ⟨c51, H⟩ := iteS H
               have c51b0 := eq_true c51
               have c51b1 := decide_eq_true c51
               try have c51b2 := eq_false (Nat.not_lt.2 c51)
               have H' := Aside0.mk H
               clear H
               try go_wp2
               replace HB := Aside0.mk (below_drew1 HB.out)
               have p44 : 0 ≤ ((ji41) : Int) := od_
               have q44 : (ji41) < (a0.size : Int) := od_
               have hx44 := bt_at a0 (ji41)
               replace p44 := eq_true p44
               replace q44 := eq_true q44
               have p49 : 0 ≤ ((ji46) : Int) := od_
               have q49 : (ji46) < (a0.size : Int) := od_
               have hx49 := bt_at a0 (ji46)
               replace p49 := eq_true p49
               replace q49 := eq_true q49
               refine start_ (n := 18) (S := fun w' => True) (ds := []) (ba 18 0) (by kernel_rfl) rfl rfl trivial (fun hHeld => ?_); refine with_tabW bulletinref48_Unescape.tab19 bulletinref48_Unescape.bits19 (fun HT_ HW_ => ?_)
               generalize wc.drew = w52 at HB hHeld ⊢
               refine pu_ 0 84 1 ?_
               refine pu_ 1 85 3 ?_
               refine pu_ 2 86 7 ?_
               refine pu_ 3 87 15 ?_
               refine pu_ 7 91 143 ?_
               refine pu_ 8 92 399 ?_
               refine pu_ 9 93 911 ?_
               refine take_ (i := 4) (N := some 88) (v := ?_) (a' := ?_) (ba 18 927) rfl rfl (take_ofW HT_.out HW_.out (by kernel_rfl)) (fun _ _ _ h => h) (Or.inl ⟨by rfl, ?_⟩) hHeld ?_ ?_
               rotate_left
               ·intro w' _
                go_simp
                with_reducible rfl
               rotate_left
               ·simp only [Act.put, List.setIfInBounds_toArray, List.set_cons_zero, List.set_cons_succ, i64_w, i32_w]
                rfl
               refine take_ (i := 10) (N := some 94) (v := ?_) (a' := ?_) (ba 18 1951) rfl rfl (take_ofW HT_.out HW_.out (by kernel_rfl)) (fun _ _ _ h => h) (Or.inl ⟨by rfl, ?_⟩) hHeld ?_ ?_
               rotate_left
               ·intro w' _
                go_simp
                with_reducible rfl
               rotate_left
               ·simp only [Act.put, List.setIfInBounds_toArray, List.set_cons_zero, List.set_cons_succ, i64_w, i32_w]
                rfl
               refine one1 5 (some 89) 1983 (fun K hK => ?_)
               refine goes_ Tryz.func14 (by kernel_rfl) rfl #[.int .u8 (bt a0 (ji41))] (by rfl) rfl rfl (by (try simp only [List.map_toArray, List.map_cons, List.map_nil]); first | done | (simp only [hji41]; rfl) | rfl | (simp only [List.length_drop, List.length_take]; rfl)) ?_
               with_reducible refine (bulletinref48_value.calls kj25 (bt a0 (ji41)) t306 _ A45.out).mono ?_
               rintro e w' ⟨rfl, ⟨nd, rfl⟩⟩
               refine ⟨_, rfl, ?_⟩
               refine hK.out _ _ trivial (fun hHeld => ?_)
               clear hK K
               refine nm_ (some 89) ?_
               refine pu_ 6 90 2047 ?_
               refine one1 11 (some 95) 4095 (fun K hK => ?_)
               refine goes_ Tryz.func14 (by kernel_rfl) rfl #[.int .u8 (bt a0 (ji46))] (by rfl) rfl rfl (by (try simp only [List.map_toArray, List.map_cons, List.map_nil]); first | done | (simp only [hji46]; rfl) | rfl | (simp only [List.length_drop, List.length_take]; rfl)) ?_
               with_reducible refine (bulletinref48_value.calls kj25 (bt a0 (ji46)) t307 _ A50.out).mono ?_
               rintro e w' ⟨rfl, ⟨nd, rfl⟩⟩
               refine ⟨_, rfl, ?_⟩
               refine hK.out _ _ trivial (fun hHeld => ?_)
               clear hK K
               refine nm_ (some 95) ?_
               refine pu_ 12 96 8191 ?_
               refine pu_ 13 97 16383 ?_
               refine one1 14 (some 98) 32767 (fun K hK => ?_)
               refine Kd.R_lit_step (Kd.int .u8) _ 5 ?hg (N := 98) ?hd (xs := ([(wrap64 ((wrap64 (16 * t306)) + t307)) % 256] : List Int)) (inner := [.int .u8 ((wrap64 ((wrap64 (16 * t306)) + t307)) % 256)]) (ok := fun _ => True) (okp := fun _ => True) ?hr ?hp (fun _ hk => hk) trivial (Below.refl _ _) (Nat.le_refl _) (by simp) ?_; (case hd => rfl); (case hg => rfl); (case hr => first | (go_simp; done) | (go_simp; rfl)); (case hp => exact (Reps.one (show Kd.M (Kd.int .u8) _ _ _ ((wrap64 ((wrap64 (16 * t306)) + t307)) % 256) [.int .u8 ((wrap64 ((wrap64 (16 * t306)) + t307)) % 256)] from rfl) (Reps.none _ _)))
               intro v309 w53 ho54 hb hg_ hnew_
               clear hg_ hnew_
               (first | rw [← Ny308.out] at ho54 | (simp only [Int.reduceToNat] at ho54; rw [← Ny308.out] at ho54))
               have n0_ := Aside0.mk (Kd.R_lower ho54 (below_size blw))
               have n1_ := Aside0.mk (below_step blw hb)
               clear HB
               have HO310 := n0_
               have HB := n1_
               clear n0_ n1_
               clear hb ho54
               refine hK.out _ _ trivial (fun hHeld => ?_)
               clear hK K
               refine nm_ (some 98) ?_
               refine one1 15 (some 99) 65535 (fun K hK => ?_)
               have hcv55 := own_string (P := Tryz.prog) Tryz.underlying37 Tryz.underlying5 Tryz.underlying9 (Kd.own_of_R HO310.out)
               refine value_ (w1 := ?_) (v := ?_) (by rfl) rfl ?_ ?_
               rotate_left 2
               ·go_simp
                constructor
                ·rfl
                ·rfl
               clear hcv55
               refine hK.out _ _ trivial (fun hHeld => ?_)
               clear hK K
               refine nm_ (some 99) ?_
               refine pu_ 16 100 131071 ?_
               refine pu_ 17 4 262143 ?_
               refine done_ (done_of HT_.out (by kernel_rfl)) ?_
               try go_wp2
               go_roundg kj25
               case measure => have := HK1.out; have := HJ2.out; have := HJ25.out; omega
               case rel => exact ⟨(x4_1 ++ (strOfNums y308)), (wrap64 ((ji46) + 1)), eqs, (by first | rfl | (simp; done) | (simp only [← hji46] <;> (first | rfl | simp)) | (simp [*]; done)), H', ⟨by have := HK1.out; have := HJ2.out; have := HJ25.out; omega⟩, ⟨blw⟩⟩
              ·replace c40 := Bool.eq_false_iff.mpr c40
               subst c40
               rw [if_neg nft] at H
               simp only [Option.some.injEq, Prod.mk.injEq] at H
               obtain ⟨rfl, rfl⟩ := H
               go_wp2
               go_ret2
               exact ⟨by first | rfl | (simp [errW_none, errW_some] <;> rfl) | (simp only [← hji14]; first | rfl | (simp [errW_none, errW_some] <;> rfl)) | (simp [*, errW_none, errW_some] <;> rfl), blw⟩
       ·rw [if_neg c12] at H
        have c12b0 := beq_eq_false_iff_ne.mpr c12
        have c12b1 := bne_iff_ne.mpr c12
        have c56b0 := eq_true (od_ : 0 ≤ x5_1)
        obtain ⟨c57, H⟩ := iteS H
        have c57b0 := eq_true c57
        have c57b1 := decide_eq_true c57
        obtain ⟨c58, H⟩ := iteS H
        have c58b0 := eq_true c58
        have c58b1 := decide_eq_true c58
        obtain ⟨c59, H⟩ := iteS H
        have c59b0 := eq_true c59
        have c59b1 := decide_eq_true c59
        (try (have c59x := c59; simp only [ByteArray.size_extract, Nat.min_self] at c59x; have c59xb0 := eq_true c59x; have c59xb1 := decide_eq_true c59x; clear c59x))
        try have c59b2 := eq_false (Nat.not_lt.2 c59)
        have H' := Aside0.mk H
        clear H
        have p11 : 0 ≤ (x5_1 : Int) := od_
        have q11 : x5_1 < (a0.size : Int) := od_
        have hx11 := bt_at a0 x5_1
        replace p11 := eq_true p11
        replace q11 := eq_true q11
        go_wp2
        go_roundg kj2
        case measure => have := HK1.out; have := HJ2.out; omega
        case rel => exact ⟨(x4_1 ++ (a0.extract (x5_1 : Int).toNat ((wrap64 (x5_1 + 1)) : Int).toNat)), (wrap64 (x5_1 + 1)), eqs, eqs, H', ⟨by have := HK1.out; have := HJ2.out; omega⟩, ⟨blw⟩⟩
   ·rw [if_neg c2] at H
    have c2b0 := decide_eq_false c2
    clear c2
    simp only [Option.some.injEq, Prod.mk.injEq] at H
    obtain ⟨rfl, rfl⟩ := H
    go_wp2
    go_ret2
    exact ⟨by first | rfl | (simp [errW_none, errW_some] <;> rfl) | (simp [*, errW_none, errW_some] <;> rfl), blw⟩

end Go.Proofs.YtcgfaagadejpmaaGreatDoor.Q
