-- Written by a program of this session (wip/myprint) out of the translation, for YtcgfaagadejpmaaDoor.
import Derived.Test.YtcgfaagadejpmaaDoorQ0
import Derived.Test.YtcgfaagadejpmaaDoorQ1
import Derived.Test.YtcgfaagadejpmaaDoorQ13
import Derived.Test.YtcgfaagadejpmaaDoorQ14
import Derived.Test.YtcgfaagadejpmaaDoorQ15
namespace Go.Proofs.YtcgfaagadejpmaaDoor.Q
open Go.RowKit Go.Proofs.YtcgfaagadejpmaaDoorW.PrintWords Go.Proofs.YtcgfaagadejpmaaDoorW.PrintLast Go.Proofs.YtcgfaagadejpmaaDoorW.PrintMore Go.Proofs.YtcgfaagadejpmaaDoorW.PrintSq
attribute [local go_sem] max2_int min2_int max_two min_two max_three min_three max_four min_four   -- for this text's walks alone
set_option linter.unusedVariables false
set_option linter.unusedSimpArgs false

attribute [local go_sem high] eqA30
/-! ### bulletinlaw48_ScriptBack: function 4 -/
mutual
def bulletinlaw48_ScriptBack.j0 : Nat → ByteArray → ByteArray → Bool → Option (Bool)
  | 0, _, _, _ => none
  | k + 1, x0, x1, x24 => if x24 = true then (some true) else (bulletinlaw48_ScriptBack.l0 k x0 x1 (x1.size : Int) 0)
def bulletinlaw48_ScriptBack.l0 : Nat → ByteArray → ByteArray → Int → Int → Option (Bool)
  | 0, _, _, _, _ => none
  | k + 1, x0, x1, x26, x27 => if x27 < x26 then (if 0 ≤ x27 then (if x27 < (x1.size : Int) then (if (bt x1 x27) = 10 then (some true) else (bulletinlaw48_ScriptBack.l0 k x0 x1 x26 (wrap64 (x27 + 1)))) else (none)) else (none)) else ((script_Read.f k x0).bind fun bt313 => (if bt313.2.2 = 0 then (bulletinlaw48_ScriptBack.l1 k x1 bt313.1 (⟨#[]⟩ : ByteArray) (bt313.1.length : Int) 0) else (some ((bt313.1.length : Int) == 0))))
def bulletinlaw48_ScriptBack.l1 : Nat → ByteArray → List (S30) → ByteArray → Int → Int → Option (Bool)
  | 0, _, _, _, _, _ => none
  | k + 1, x1, x6, x9, x47, x48 => if x48 < x47 then (if 0 ≤ x48 then (if x48 < (x6.length : Int) then ((script_Show.f k ((rd_T30 x6 x48).f0) ((rd_T30 x6 x48).f1) ((rd_T30 x6 x48).f2) ((rd_T30 x6 x48).f3) ((rd_T30 x6 x48).f4)).bind fun t319 => (if t319.size + 2 ≤ 9223372036854775807 then (if t319.size + 2 + x1.size ≤ 9223372036854775807 then (if t319.size + 2 + x1.size + 2 ≤ 9223372036854775807 then (if x9.size + (t319.size + 2 + x1.size + 2) ≤ 9223372036854775807 then (bulletinlaw48_ScriptBack.l1 k x1 x6 (x9 ++ (((t319 ++ (⟨#[10, 35]⟩ : ByteArray)) ++ x1) ++ (⟨#[10, 10]⟩ : ByteArray))) x47 (wrap64 (x48 + 1))) else (none)) else (none)) else (none)) else (none))) else (none)) else (none)) else ((script_Read.f k x9).bind fun bt320 => (if bt320.2.2 = 0 then (if bt320.2.1 = 0 then (bulletinlaw48_ScriptBack.j3 k x6 bt320.1 ((bt320.1.length : Int) != (x6.length : Int))) else (bulletinlaw48_ScriptBack.j3 k x6 bt320.1 true)) else (bulletinlaw48_ScriptBack.j3 k x6 bt320.1 true)))
def bulletinlaw48_ScriptBack.j3 : Nat → List (S30) → List (S30) → Bool → Option (Bool)
  | 0, _, _, _ => none
  | k + 1, x6, x11, x81 => if x81 = true then (none) else (bulletinlaw48_ScriptBack.l2 k x6 x11 (x6.length : Int) 0)
def bulletinlaw48_ScriptBack.l2 : Nat → List (S30) → List (S30) → Int → Int → Option (Bool)
  | 0, _, _, _, _ => none
  | k + 1, x6, x11, x83, x84 => if x84 < x83 then (if 0 ≤ x84 then (if x84 < (x6.length : Int) then (if x84 < (x11.length : Int) then (if (!(((rd_T30 x6 x84).f0) == ((rd_T30 x11 x84).f0)) || (!((((rd_T30 x6 x84).f1).toList) == (((rd_T30 x11 x84).f1).toList)) || (!((((rd_T30 x6 x84).f2).toList) == (((rd_T30 x11 x84).f2).toList)) || (!((((rd_T30 x6 x84).f3).toList) == (((rd_T30 x11 x84).f3).toList)) || (!(((rd_T30 x6 x84).f4) == ((rd_T30 x11 x84).f4))))))) = true then (none) else (bulletinlaw48_ScriptBack.l2 k x6 x11 x83 (wrap64 (x84 + 1)))) else (none)) else (none)) else (none)) else (some true)
end
def bulletinlaw48_ScriptBack.f (k : Nat) (a0 : ByteArray) (a1 : ByteArray) : Option (Bool) := (bulletinlaw48_works.f k).bind fun t312 => (if t312 = true then (if (a0.size : Int) > 3000 then (bulletinlaw48_ScriptBack.j0 k a0 a1 true) else (bulletinlaw48_ScriptBack.j0 k a0 a1 (decide ((a1.size : Int) > 100)))) else (none))
theorem bulletinlaw48_ScriptBack.mono_l : ∀ k, (∀ y0 y1 y2, LeO (bulletinlaw48_ScriptBack.j0 k y0 y1 y2) (bulletinlaw48_ScriptBack.j0 (k + 1) y0 y1 y2)) ∧ (∀ y0 y1 y2 y3, LeO (bulletinlaw48_ScriptBack.l0 k y0 y1 y2 y3) (bulletinlaw48_ScriptBack.l0 (k + 1) y0 y1 y2 y3)) ∧ (∀ y0 y1 y2 y3 y4, LeO (bulletinlaw48_ScriptBack.l1 k y0 y1 y2 y3 y4) (bulletinlaw48_ScriptBack.l1 (k + 1) y0 y1 y2 y3 y4)) ∧ (∀ y0 y1 y2, LeO (bulletinlaw48_ScriptBack.j3 k y0 y1 y2) (bulletinlaw48_ScriptBack.j3 (k + 1) y0 y1 y2)) ∧ (∀ y0 y1 y2 y3, LeO (bulletinlaw48_ScriptBack.l2 k y0 y1 y2 y3) (bulletinlaw48_ScriptBack.l2 (k + 1) y0 y1 y2 y3))
  | 0 => ⟨fun _ _ _ r h => by simp [bulletinlaw48_ScriptBack.j0] at h, fun _ _ _ _ r h => by simp [bulletinlaw48_ScriptBack.l0] at h, fun _ _ _ _ _ r h => by simp [bulletinlaw48_ScriptBack.l1] at h, fun _ _ _ r h => by simp [bulletinlaw48_ScriptBack.j3] at h, fun _ _ _ _ r h => by simp [bulletinlaw48_ScriptBack.l2] at h⟩
  | k + 1 => by
    obtain ⟨ih0, ih1, ih2, ih3, ih4⟩ := bulletinlaw48_ScriptBack.mono_l k
    refine ⟨?_, ?_, ?_, ?_, ?_⟩
    · intro y0 y1 y2
      unfold bulletinlaw48_ScriptBack.j0
      repeat' first | (with_reducible first | exact ih0 _ _ _ | exact ih1 _ _ _ _ | exact ih2 _ _ _ _ _ | exact ih3 _ _ _ | exact ih4 _ _ _ _ | exact bulletinlaw48_works.mono _ | exact script_Read.mono _ _ | exact script_Show.mono _ _ _ _ _ _ | exact LeO.refl _ | exact LeO.none _ | refine LeO.ite ?_ ?_ | refine LeO.bind ?_ (fun _ => ?_)) | exact ih0 _ _ _ | exact ih1 _ _ _ _ | exact ih2 _ _ _ _ _ | exact ih3 _ _ _ | exact ih4 _ _ _ _ | exact bulletinlaw48_works.mono _ | exact script_Read.mono _ _ | exact script_Show.mono _ _ _ _ _ _ | exact LeO.none _ | refine LeO.ite ?_ ?_ | refine LeO.bind ?_ (fun _ => ?_)
    · intro y0 y1 y2 y3
      unfold bulletinlaw48_ScriptBack.l0
      repeat' first | (with_reducible first | exact ih0 _ _ _ | exact ih1 _ _ _ _ | exact ih2 _ _ _ _ _ | exact ih3 _ _ _ | exact ih4 _ _ _ _ | exact bulletinlaw48_works.mono _ | exact script_Read.mono _ _ | exact script_Show.mono _ _ _ _ _ _ | exact LeO.refl _ | exact LeO.none _ | refine LeO.ite ?_ ?_ | refine LeO.bind ?_ (fun _ => ?_)) | exact ih0 _ _ _ | exact ih1 _ _ _ _ | exact ih2 _ _ _ _ _ | exact ih3 _ _ _ | exact ih4 _ _ _ _ | exact bulletinlaw48_works.mono _ | exact script_Read.mono _ _ | exact script_Show.mono _ _ _ _ _ _ | exact LeO.none _ | refine LeO.ite ?_ ?_ | refine LeO.bind ?_ (fun _ => ?_)
    · intro y0 y1 y2 y3 y4
      unfold bulletinlaw48_ScriptBack.l1
      repeat' first | (with_reducible first | exact ih0 _ _ _ | exact ih1 _ _ _ _ | exact ih2 _ _ _ _ _ | exact ih3 _ _ _ | exact ih4 _ _ _ _ | exact bulletinlaw48_works.mono _ | exact script_Read.mono _ _ | exact script_Show.mono _ _ _ _ _ _ | exact LeO.refl _ | exact LeO.none _ | refine LeO.ite ?_ ?_ | refine LeO.bind ?_ (fun _ => ?_)) | exact ih0 _ _ _ | exact ih1 _ _ _ _ | exact ih2 _ _ _ _ _ | exact ih3 _ _ _ | exact ih4 _ _ _ _ | exact bulletinlaw48_works.mono _ | exact script_Read.mono _ _ | exact script_Show.mono _ _ _ _ _ _ | exact LeO.none _ | refine LeO.ite ?_ ?_ | refine LeO.bind ?_ (fun _ => ?_)
    · intro y0 y1 y2
      unfold bulletinlaw48_ScriptBack.j3
      repeat' first | (with_reducible first | exact ih0 _ _ _ | exact ih1 _ _ _ _ | exact ih2 _ _ _ _ _ | exact ih3 _ _ _ | exact ih4 _ _ _ _ | exact bulletinlaw48_works.mono _ | exact script_Read.mono _ _ | exact script_Show.mono _ _ _ _ _ _ | exact LeO.refl _ | exact LeO.none _ | refine LeO.ite ?_ ?_ | refine LeO.bind ?_ (fun _ => ?_)) | exact ih0 _ _ _ | exact ih1 _ _ _ _ | exact ih2 _ _ _ _ _ | exact ih3 _ _ _ | exact ih4 _ _ _ _ | exact bulletinlaw48_works.mono _ | exact script_Read.mono _ _ | exact script_Show.mono _ _ _ _ _ _ | exact LeO.none _ | refine LeO.ite ?_ ?_ | refine LeO.bind ?_ (fun _ => ?_)
    · intro y0 y1 y2 y3
      unfold bulletinlaw48_ScriptBack.l2
      repeat' first | (with_reducible first | exact ih0 _ _ _ | exact ih1 _ _ _ _ | exact ih2 _ _ _ _ _ | exact ih3 _ _ _ | exact ih4 _ _ _ _ | exact bulletinlaw48_works.mono _ | exact script_Read.mono _ _ | exact script_Show.mono _ _ _ _ _ _ | exact LeO.refl _ | exact LeO.none _ | refine LeO.ite ?_ ?_ | refine LeO.bind ?_ (fun _ => ?_)) | exact ih0 _ _ _ | exact ih1 _ _ _ _ | exact ih2 _ _ _ _ _ | exact ih3 _ _ _ | exact ih4 _ _ _ _ | exact bulletinlaw48_works.mono _ | exact script_Read.mono _ _ | exact script_Show.mono _ _ _ _ _ _ | exact LeO.none _ | refine LeO.ite ?_ ?_ | refine LeO.bind ?_ (fun _ => ?_)
theorem bulletinlaw48_ScriptBack.mono : ∀ a0 a1 k, LeO (bulletinlaw48_ScriptBack.f k a0 a1) (bulletinlaw48_ScriptBack.f (k + 1) a0 a1) := by
  intro a0 a1 k
  obtain ⟨ih0, ih1, ih2, ih3, ih4⟩ := bulletinlaw48_ScriptBack.mono_l k
  unfold bulletinlaw48_ScriptBack.f
  repeat' first | (with_reducible first | exact ih0 _ _ _ | exact ih1 _ _ _ _ | exact ih2 _ _ _ _ _ | exact ih3 _ _ _ | exact ih4 _ _ _ _ | exact bulletinlaw48_works.mono _ | exact script_Read.mono _ _ | exact script_Show.mono _ _ _ _ _ _ | exact LeO.refl _ | exact LeO.none _ | refine LeO.ite ?_ ?_ | refine LeO.bind ?_ (fun _ => ?_)) | exact ih0 _ _ _ | exact ih1 _ _ _ _ | exact ih2 _ _ _ _ _ | exact ih3 _ _ _ | exact ih4 _ _ _ _ | exact bulletinlaw48_works.mono _ | exact script_Read.mono _ _ | exact script_Show.mono _ _ _ _ _ _ | exact LeO.none _ | refine LeO.ite ?_ ?_ | refine LeO.bind ?_ (fun _ => ?_)
set_option maxHeartbeats 8000000 in
set_option maxRecDepth 100000 in
theorem bulletinlaw48_ScriptBack.calls (k : Nat) (a0 : ByteArray) (a1 : ByteArray) (r : Bool) (w : World) (hG : Amb w) (h : bulletinlaw48_ScriptBack.f k a0 a1 = some r) :
    Calls Tryd.prog 4 #[.string a0, .string a1] w fun e w' => e = .returned (.bool r) ∧ Below w.heap.size w w' := by
 have hu30 := Tryd.underlying30
 have HB := Aside0.mk (Below.refl w.heap.size w)
 unfold bulletinlaw48_ScriptBack.f at h
 have H := h
 clear h
 have HG := Aside0.mk hG
 clear hG
 replace H := Option.bind_eq_some_iff.mp H
 obtain ⟨t312, A30, H⟩ := H
 try dsimp only at H
 have A3 := Aside0.mk A30
 clear A30
 obtain ⟨rfl, H⟩ := iteS H
 have HC5 := Aside0.mk H
 clear H
 go_enter Tryd.func4, Tryd.ntmps4
 go_upto_region 3 with (first | (go_at_call 6; (with_reducible refine (bulletinlaw48_works.calls k  true _ ?side1 A3.out).mono ?_); (case side1 => exact Amb.at HG.out blw); rintro e w6 ⟨rfl, hb⟩; replace HB := Aside0.mk (below_step blw hb); (try clear hb)))
 repeat (go_quiet (first | (go_at_call 6; (with_reducible refine (bulletinlaw48_works.calls k  true _ ?side1 A3.out).mono ?_); (case side1 => exact Amb.at HG.out blw); rintro e w6 ⟨rfl, hb⟩; replace HB := Aside0.mk (below_step blw hb); (try clear hb))); go_upto_region 3 with (first | (go_at_call 6; (with_reducible refine (bulletinlaw48_works.calls k  true _ ?side1 A3.out).mono ?_); (case side1 => exact Amb.at HG.out blw); rintro e w6 ⟨rfl, hb⟩; replace HB := Aside0.mk (below_step blw hb); (try clear hb))))
 (try simp only [Act.put, List.setIfInBounds_toArray, List.set_cons_zero, List.set_cons_succ])
 go_cut [24] (fun v24 wc => ∃ (kq : Nat) (x24_4 : Bool), v24 = .bool x24_4 ∧ Aside0 (bulletinlaw48_ScriptBack.j0 kq a0 a1 x24_4 = some r) ∧ Aside0 (kq ≤ k) ∧ Aside0 (Below w.heap.size w wc))
 case first =>
  have H := HC5.out
  clear HC5
  by_cases c7 : (a0.size : Int) > 3000
  ·rw [if_pos c7] at H
   have c7b0 : decide (3000 < (a0.size : Int)) = true := decide_eq_true c7
   have c7b1 : decide (3000 < a0.size) = true := decide_eq_true (by omega)
   clear c7
   (first | rw [c7b0] | (simp only [i64_w, i32_w]; rw [c7b0]) | skip)
   have H' := Aside0.mk H
   clear H
   go_wp2
   repeat (go_quiet (fail); try go_wp2)
   go_meet
   case rel => exact ⟨_, (true), eqs, H', omk, ⟨blw⟩⟩
  ·rw [if_neg c7] at H
   have c7b0 : decide (3000 < (a0.size : Int)) = false := decide_eq_false c7
   have c7b1 : decide (3000 < a0.size) = false := decide_eq_false (by omega)
   clear c7
   (first | rw [c7b0] | (simp only [i64_w, i32_w]; rw [c7b0]) | skip)
   have H' := Aside0.mk H
   clear H
   go_wp2
   repeat (go_quiet (fail); try go_wp2)
   go_meet
   case rel => exact ⟨_, (decide ((a1.size : Int) > 100)), eqs, H', omk, ⟨blw⟩⟩
 case rest =>
  clear HC5
  try clear p2
  try clear c4
  try clear c7
  try clear c7b0
  try clear c7b1
  obtain ⟨kq, x24_4, rfl, HA, HJ4, HB⟩ := hcut
  cases kq with
  | zero => exact absurd HA.out (by simp [bulletinlaw48_ScriptBack.j0])
  | succ kj4 =>
   have H := HA.out
   clear HA
   simp only [bulletinlaw48_ScriptBack.j0] at H
   by_cases c8 : x24_4 = true
   ·subst c8
    rw [if_pos rfl] at H
    obtain rfl := Option.some.inj H
    go_wp2
    repeat (go_quiet (fail); try go_wp2)
    go_ret
    exact ⟨by first | rfl | (simp [errW_none, errW_some] <;> rfl) | (simp [*, errW_none, errW_some] <;> rfl), blw⟩
   ·replace c8 := Bool.eq_false_iff.mpr c8
    subst c8
    rw [if_neg nft] at H
    have H' := Aside0.mk H
    clear H
    go_wp2
    repeat (go_quiet (fail); try go_wp2)
    go_loopg [27] kj4 (fun kq v27 w' => ∃ (x27_2 : Int), v27 = .int .i64 x27_2 ∧ Aside0 (bulletinlaw48_ScriptBack.l0 kq a0 a1 (a1.size : Int) x27_2 = some r) ∧ Aside0 (kq ≤ kj4) ∧ Aside0 (Below w.heap.size w w'))
    case atStart => exact ⟨(0), eqs, H', ⟨Nat.le_refl _⟩, ⟨blw⟩⟩
    case round =>
     clear H'
     try clear p2
     try clear c4
     try clear c7
     try clear c7b0
     try clear c7b1
     try clear c8
     try clear p2
     obtain ⟨x27_2, rfl, HA, HK2, HB⟩ := hrel
     cases gk with
     | zero => exact absurd HA.out (by simp [bulletinlaw48_ScriptBack.l0])
     | succ k2 =>
      have H := HA.out
      clear HA
      simp only [bulletinlaw48_ScriptBack.l0] at H
      by_cases c9 : x27_2 < (a1.size : Int)
      ·rw [if_pos c9] at H
       have c9b0 := decide_eq_true c9
       clear c9
       obtain ⟨c10, H⟩ := iteS H
       have c10b0 := decide_eq_true c10
       clear c10
       obtain ⟨c11, H⟩ := iteS H
       have c11b0 := decide_eq_true c11
       clear c11
       by_cases c13 : (bt a1 x27_2) = 10
       ·rw [if_pos c13] at H
        have c13b0 := beq_iff_eq.mpr c13
        have c13b1 := bne_eq_false_iff_eq.mpr c13
        clear c13
        obtain rfl := Option.some.inj H
        have p12 : 0 ≤ (x27_2 : Int) := od_
        have q12 : x27_2 < (a1.size : Int) := od_
        have hx12 := bt_at a1 x27_2
        replace p12 := eq_true p12
        replace q12 := eq_true q12
        go_wp2
        repeat (go_quiet (fail); try go_wp2)
        go_ret
        exact ⟨by first | rfl | (simp [errW_none, errW_some] <;> rfl) | (simp [*, errW_none, errW_some] <;> rfl), blw⟩
       ·rw [if_neg c13] at H
        have c13b0 := beq_eq_false_iff_ne.mpr c13
        have c13b1 := bne_iff_ne.mpr c13
        have H' := Aside0.mk H
        clear H
        have p12 : 0 ≤ (x27_2 : Int) := od_
        have q12 : x27_2 < (a1.size : Int) := od_
        have hx12 := bt_at a1 x27_2
        replace p12 := eq_true p12
        replace q12 := eq_true q12
        go_wp2
        repeat (go_quiet (fail); try go_wp2)
        go_roundg k2
        case measure => have := HJ4.out; have := HK2.out; omega
        case rel => exact ⟨(wrap64 (x27_2 + 1)), eqs, H', ⟨by have := HJ4.out; have := HK2.out; omega⟩, ⟨blw⟩⟩
      ·rw [if_neg c9] at H
       have c9b0 := decide_eq_false c9
       clear c9
       replace H := Option.bind_eq_some_iff.mp H
       obtain ⟨⟨t313, t314, t315⟩, A140, H⟩ := H
       try dsimp only at H
       have A14 := Aside0.mk A140
       clear A140
       by_cases c15 : t315 = 0
       ·rw [if_pos c15] at H
        have c15b0 := beq_iff_eq.mpr c15
        have c15b1 := bne_eq_false_iff_eq.mpr c15
        clear c15
        have H' := Aside0.mk H
        clear H
        go_wp2_with (first | (go_at_call 7; (with_reducible refine (script_Read.calls k2 a0 t313 t314 t315 _ ?side1 A14.out).mono ?_); (case side1 => exact Amb.at HG.out blw); rintro e w16 ⟨v316, rfl, ho0, hb⟩; have HO317 := Aside0.mk (Kd.R_lower ho0 (below_size blw)); replace HB := Aside0.mk (below_step blw hb); (try clear hb); (try clear ho0); obtain ⟨Ao17, co17, eo17⟩ := Kd.R_slice HO317.out; subst eo17))
        repeat (go_quiet (first | (go_at_call 7; (with_reducible refine (script_Read.calls k2 a0 t313 t314 t315 _ ?side1 A14.out).mono ?_); (case side1 => exact Amb.at HG.out blw); rintro e w16 ⟨v316, rfl, ho0, hb⟩; have HO317 := Aside0.mk (Kd.R_lower ho0 (below_size blw)); replace HB := Aside0.mk (below_step blw hb); (try clear hb); (try clear ho0); obtain ⟨Ao17, co17, eo17⟩ := Kd.R_slice HO317.out; subst eo17)); try go_wp2_with (first | (go_at_call 7; (with_reducible refine (script_Read.calls k2 a0 t313 t314 t315 _ ?side1 A14.out).mono ?_); (case side1 => exact Amb.at HG.out blw); rintro e w16 ⟨v316, rfl, ho0, hb⟩; have HO317 := Aside0.mk (Kd.R_lower ho0 (below_size blw)); replace HB := Aside0.mk (below_step blw hb); (try clear hb); (try clear ho0); obtain ⟨Ao17, co17, eo17⟩ := Kd.R_slice HO317.out; subst eo17)))
        go_loopg [9, 48] k2 (fun kq v9 v48 w' => ∃ (x9_3 : ByteArray) (x48_3 : Int), v9 = .string x9_3 ∧ v48 = .int .i64 x48_3 ∧ Aside0 (bulletinlaw48_ScriptBack.l1 kq a1 t313 x9_3 (t313.length : Int) x48_3 = some r) ∧ Aside0 (kq ≤ k2) ∧ Aside0 (Kd.R k30 30 w' w.heap.size (fun _ => True) (.slice Ao17 t313.length co17) t313) ∧ Aside0 (Below w.heap.size w w'))
        case atStart => exact ⟨((⟨#[]⟩ : ByteArray)), (0), eqs, eqs, H', ⟨Nat.le_refl _⟩, ⟨by (with_reducible repeat (first | apply Kd.R_alloc | apply Kd.R_drewN | apply Kd.R_drew)); exact HO317.out⟩, ⟨blw⟩⟩
        case round =>
         clear H'
         try clear c1
         try clear p1
         try clear q1
         try clear hx1
         try clear p2
         try clear c4
         try clear p6
         try clear c7
         try clear c7b0
         try clear c7b1
         try clear c8
         try clear c9
         try clear c9b0
         try clear c10
         try clear c10b0
         try clear c11
         try clear c11b0
         try clear p12
         try clear q12
         try clear hx12
         try clear c13
         try clear c13b0
         try clear c13b1
         try clear c15
         try clear c15b0
         try clear c15b1
         try clear p12
         try clear p2
         try clear q12
         obtain ⟨x9_3, x48_3, rfl, rfl, HA, HK3, HO_6, HB⟩ := hrel
         cases gk with
         | zero => exact absurd HA.out (by simp [bulletinlaw48_ScriptBack.l1])
         | succ k3 =>
          have H := HA.out
          clear HA
          simp only [bulletinlaw48_ScriptBack.l1] at H
          by_cases c18 : x48_3 < (t313.length : Int)
          ·rw [if_pos c18] at H
           have c18b0 := decide_eq_true c18
           clear c18
           obtain ⟨c19, H⟩ := iteS H
           have c19b0 := decide_eq_true c19
           clear c19
           obtain ⟨c20, H⟩ := iteS H
           have c20b0 := decide_eq_true c20
           clear c20
           replace H := Option.bind_eq_some_iff.mp H
           obtain ⟨t319, A210, H⟩ := H
           try dsimp only at H
           have A21 := Aside0.mk A210
           clear A210
           obtain ⟨c22, H⟩ := iteS H
           have c22b0 := eq_true c22
           have c22b1 := decide_eq_true c22
           try have c22b2 := eq_false (Nat.not_lt.2 c22)
           obtain ⟨c23, H⟩ := iteS H
           have c23b0 := eq_true c23
           have c23b1 := decide_eq_true c23
           try have c23b2 := eq_false (Nat.not_lt.2 c23)
           obtain ⟨c24, H⟩ := iteS H
           have c24b0 := eq_true c24
           have c24b1 := decide_eq_true c24
           try have c24b2 := eq_false (Nat.not_lt.2 c24)
           obtain ⟨c25, H⟩ := iteS H
           have c25b0 := eq_true c25
           have c25b1 := decide_eq_true c25
           try have c25b2 := eq_false (Nat.not_lt.2 c25)
           have H' := Aside0.mk H
           clear H
           have p318 : 0 ≤ (x48_3 : Int) := od_
           have q318 : x48_3 < (t313.length : Int) := od_
           obtain ⟨ad318, e318, hx318_0, hx318_1, hx318_2, hx318_3, hx318_4⟩ := at_T30 (Kd.R_reads' HO_6.out).2.2 x48_3 p318 q318
           cases e318
           replace p318 := eq_true p318
           replace q318 := eq_true q318
           go_wp2_with (first | (go_at_call 8; (with_reducible refine (script_Show.calls k3 ((rd_T30 t313 x48_3).f0) ((rd_T30 t313 x48_3).f1) ((rd_T30 t313 x48_3).f2) ((rd_T30 t313 x48_3).f3) ((rd_T30 t313 x48_3).f4) t319 _ ?side1 A21.out).mono ?_); (case side1 => exact Amb.at HG.out blw); rintro e w26 ⟨rfl, hb⟩; replace HO_6 := Aside0.mk (Kd.R_below (by (with_reducible repeat (first | apply Kd.R_alloc | apply Kd.R_drewN | apply Kd.R_drew)); exact HO_6.out) hb); replace HB := Aside0.mk (below_step blw hb); (try clear hb)))
           repeat (go_quiet (first | (go_at_call 8; (with_reducible refine (script_Show.calls k3 ((rd_T30 t313 x48_3).f0) ((rd_T30 t313 x48_3).f1) ((rd_T30 t313 x48_3).f2) ((rd_T30 t313 x48_3).f3) ((rd_T30 t313 x48_3).f4) t319 _ ?side1 A21.out).mono ?_); (case side1 => exact Amb.at HG.out blw); rintro e w26 ⟨rfl, hb⟩; replace HO_6 := Aside0.mk (Kd.R_below (by (with_reducible repeat (first | apply Kd.R_alloc | apply Kd.R_drewN | apply Kd.R_drew)); exact HO_6.out) hb); replace HB := Aside0.mk (below_step blw hb); (try clear hb))); try go_wp2_with (first | (go_at_call 8; (with_reducible refine (script_Show.calls k3 ((rd_T30 t313 x48_3).f0) ((rd_T30 t313 x48_3).f1) ((rd_T30 t313 x48_3).f2) ((rd_T30 t313 x48_3).f3) ((rd_T30 t313 x48_3).f4) t319 _ ?side1 A21.out).mono ?_); (case side1 => exact Amb.at HG.out blw); rintro e w26 ⟨rfl, hb⟩; replace HO_6 := Aside0.mk (Kd.R_below (by (with_reducible repeat (first | apply Kd.R_alloc | apply Kd.R_drewN | apply Kd.R_drew)); exact HO_6.out) hb); replace HB := Aside0.mk (below_step blw hb); (try clear hb))))
           go_roundg k3
           case measure => have := HJ4.out; have := HK2.out; have := HK3.out; omega
           case rel => exact ⟨(x9_3 ++ (((t319 ++ (⟨#[10, 35]⟩ : ByteArray)) ++ a1) ++ (⟨#[10, 10]⟩ : ByteArray))), (wrap64 (x48_3 + 1)), eqs, eqs, H', ⟨by have := HJ4.out; have := HK2.out; have := HK3.out; omega⟩, ⟨by (with_reducible repeat (first | apply Kd.R_alloc | apply Kd.R_drewN | apply Kd.R_drew)); exact HO_6.out⟩, ⟨blw⟩⟩
          ·rw [if_neg c18] at H
           have c18b0 := decide_eq_false c18
           clear c18
           replace H := Option.bind_eq_some_iff.mp H
           obtain ⟨⟨t320, t321, t322⟩, A270, H⟩ := H
           try dsimp only at H
           have A27 := Aside0.mk A270
           clear A270
           have HC28 := Aside0.mk H
           clear H
           go_upto_region 21 with (first | (go_at_call 7; (with_reducible refine (script_Read.calls k3 x9_3 t320 t321 t322 _ ?side1 A27.out).mono ?_); (case side1 => exact Amb.at HG.out blw); rintro e w29 ⟨v323, rfl, ho0, hb⟩; have HO324 := Aside0.mk (Kd.R_lower (Kd.R_new' ho0 (Kd.R_lt (by (with_reducible repeat (first | apply Kd.R_alloc | apply Kd.R_drewN | apply Kd.R_drew)); exact HO_6.out))) (below_size blw)); replace HO_6 := Aside0.mk (Kd.R_elder' (by (with_reducible repeat (first | apply Kd.R_alloc | apply Kd.R_drewN | apply Kd.R_drew)); exact HO_6.out) (Kd.R_base ho0) hb); replace HB := Aside0.mk (below_step blw hb); (try clear hb); (try clear ho0)))
           repeat (go_quiet (first | (go_at_call 7; (with_reducible refine (script_Read.calls k3 x9_3 t320 t321 t322 _ ?side1 A27.out).mono ?_); (case side1 => exact Amb.at HG.out blw); rintro e w29 ⟨v323, rfl, ho0, hb⟩; have HO324 := Aside0.mk (Kd.R_lower (Kd.R_new' ho0 (Kd.R_lt (by (with_reducible repeat (first | apply Kd.R_alloc | apply Kd.R_drewN | apply Kd.R_drew)); exact HO_6.out))) (below_size blw)); replace HO_6 := Aside0.mk (Kd.R_elder' (by (with_reducible repeat (first | apply Kd.R_alloc | apply Kd.R_drewN | apply Kd.R_drew)); exact HO_6.out) (Kd.R_base ho0) hb); replace HB := Aside0.mk (below_step blw hb); (try clear hb); (try clear ho0))); go_upto_region 21 with (first | (go_at_call 7; (with_reducible refine (script_Read.calls k3 x9_3 t320 t321 t322 _ ?side1 A27.out).mono ?_); (case side1 => exact Amb.at HG.out blw); rintro e w29 ⟨v323, rfl, ho0, hb⟩; have HO324 := Aside0.mk (Kd.R_lower (Kd.R_new' ho0 (Kd.R_lt (by (with_reducible repeat (first | apply Kd.R_alloc | apply Kd.R_drewN | apply Kd.R_drew)); exact HO_6.out))) (below_size blw)); replace HO_6 := Aside0.mk (Kd.R_elder' (by (with_reducible repeat (first | apply Kd.R_alloc | apply Kd.R_drewN | apply Kd.R_drew)); exact HO_6.out) (Kd.R_base ho0) hb); replace HB := Aside0.mk (below_step blw hb); (try clear hb); (try clear ho0))))
           (try simp only [Act.put, List.setIfInBounds_toArray, List.set_cons_zero, List.set_cons_succ])
           go_cut [81] (fun v81 wc => ∃ (kq : Nat) (x81_27 : Bool), v81 = .bool x81_27 ∧ Aside0 (bulletinlaw48_ScriptBack.j3 kq t313 t320 x81_27 = some r) ∧ Aside0 (kq ≤ k3) ∧ Aside0 (Kd.R k30 30 wc w.heap.size (fun k_ => some k_ ≠ (v323 : Value).ownBlock) (.slice Ao17 t313.length co17) t313) ∧ Aside0 (Kd.R k30 30 wc w.heap.size (fun k_ => some k_ ≠ ((.slice Ao17 t313.length co17) : Value).ownBlock) v323 t320) ∧ Aside0 (Below w.heap.size w wc))
           case first =>
            have H := HC28.out
            clear HC28
            by_cases c30 : t322 = 0
            ·rw [if_pos c30] at H
             have c30b0 := beq_iff_eq.mpr c30
             have c30b1 := bne_eq_false_iff_eq.mpr c30
             clear c30
             (first | rw [c30b0] | (simp only [i64_w, i32_w]; rw [c30b0]) | skip)
             by_cases c31 : t321 = 0
             ·rw [if_pos c31] at H
              have c31b0 := beq_iff_eq.mpr c31
              have c31b1 := bne_eq_false_iff_eq.mpr c31
              clear c31
              have H' := Aside0.mk H
              clear H
              obtain ⟨Ao32, co32, eo32⟩ := Kd.R_slice HO324.out
              subst eo32
              go_wp2
              repeat (go_quiet (fail); try go_wp2)
              go_meet
              case rel => exact ⟨_, (((t320.length : Int) != (t313.length : Int))), eqs, H', ⟨by have := HJ4.out; have := HK2.out; have := HK3.out; first | omega | exact Nat.le_refl _⟩, ⟨by (with_reducible repeat (first | apply Kd.R_alloc | apply Kd.R_drewN | apply Kd.R_drew)); exact Kd.R_mono HO_6.out (fun _ hk => hk.2)⟩, ⟨by (with_reducible repeat (first | apply Kd.R_alloc | apply Kd.R_drewN | apply Kd.R_drew)); exact Kd.R_mono HO324.out (fun _ hk => hk.2)⟩, ⟨blw⟩⟩
             ·rw [if_neg c31] at H
              have c31b0 := beq_eq_false_iff_ne.mpr c31
              have c31b1 := bne_iff_ne.mpr c31
              have H' := Aside0.mk H
              clear H
              go_wp2
              repeat (go_quiet (fail); try go_wp2)
              go_meet
              case rel => exact ⟨_, (true), eqs, H', ⟨by have := HJ4.out; have := HK2.out; have := HK3.out; first | omega | exact Nat.le_refl _⟩, ⟨by (with_reducible repeat (first | apply Kd.R_alloc | apply Kd.R_drewN | apply Kd.R_drew)); exact Kd.R_mono HO_6.out (fun _ hk => hk.2)⟩, ⟨by (with_reducible repeat (first | apply Kd.R_alloc | apply Kd.R_drewN | apply Kd.R_drew)); exact Kd.R_mono HO324.out (fun _ hk => hk.2)⟩, ⟨blw⟩⟩
            ·rw [if_neg c30] at H
             have c30b0 := beq_eq_false_iff_ne.mpr c30
             have c30b1 := bne_iff_ne.mpr c30
             (first | rw [c30b0] | (simp only [i64_w, i32_w]; rw [c30b0]) | skip)
             have H' := Aside0.mk H
             clear H
             go_wp2
             repeat (go_quiet (fail); try go_wp2)
             go_meet
             case rel => exact ⟨_, (true), eqs, H', ⟨by have := HJ4.out; have := HK2.out; have := HK3.out; first | omega | exact Nat.le_refl _⟩, ⟨by (with_reducible repeat (first | apply Kd.R_alloc | apply Kd.R_drewN | apply Kd.R_drew)); exact Kd.R_mono HO_6.out (fun _ hk => hk.2)⟩, ⟨by (with_reducible repeat (first | apply Kd.R_alloc | apply Kd.R_drewN | apply Kd.R_drew)); exact Kd.R_mono HO324.out (fun _ hk => hk.2)⟩, ⟨blw⟩⟩
           case rest =>
            clear HC28
            try clear c1
            try clear p1
            try clear q1
            try clear hx1
            try clear c2
            try clear p2
            try clear c3
            try clear p3
            try clear q3
            try clear hx3
            try clear c4
            try clear p6
            try clear c7
            try clear c7b0
            try clear c7b1
            try clear c8
            try clear c9
            try clear c9b0
            try clear c10
            try clear c10b0
            try clear c11
            try clear c11b0
            try clear p12
            try clear q12
            try clear hx12
            try clear c13
            try clear c13b0
            try clear c13b1
            try clear c15
            try clear c15b0
            try clear c15b1
            try clear c18
            try clear c18b0
            try clear c19
            try clear c19b0
            try clear c20
            try clear c20b0
            try clear c22
            try clear c22b0
            try clear c22b1
            try clear c22b2
            try clear c23
            try clear c23b0
            try clear c23b1
            try clear c23b2
            try clear c24
            try clear c24b0
            try clear c24b1
            try clear c24b2
            try clear c25
            try clear c25b0
            try clear c25b1
            try clear c25b2
            try clear c30
            try clear c30b0
            try clear c30b1
            try clear c31
            try clear c31b0
            try clear c31b1
            try clear p31
            try clear q31
            try clear hx31
            try clear hx318_0
            try clear hx318_1
            try clear hx318_2
            try clear hx318_3
            try clear hx318_4
            try clear p1
            try clear p12
            try clear p2
            try clear p318
            try clear p6
            try clear q1
            try clear q12
            try clear q318
            obtain ⟨kq, x81_27, rfl, HA, HJ27, HO_6, HO_11, HB⟩ := hcut
            cases kq with
            | zero => exact absurd HA.out (by simp [bulletinlaw48_ScriptBack.j3])
            | succ kj27 =>
             have H := HA.out
             clear HA
             simp only [bulletinlaw48_ScriptBack.j3] at H
             obtain ⟨rfl, H⟩ := iteF H
             have H' := Aside0.mk H
             clear H
             go_wp2
             repeat (go_quiet (fail); try go_wp2)
             go_loopg [84] kj27 (fun kq v84 w' => ∃ (x84_5 : Int), v84 = .int .i64 x84_5 ∧ Aside0 (bulletinlaw48_ScriptBack.l2 kq t313 t320 (t313.length : Int) x84_5 = some r) ∧ Aside0 (kq ≤ kj27) ∧ Aside0 (Kd.R k30 30 w' w.heap.size (fun k_ => some k_ ≠ (v323 : Value).ownBlock) (.slice Ao17 t313.length co17) t313) ∧ Aside0 (Kd.R k30 30 w' w.heap.size (fun k_ => some k_ ≠ ((.slice Ao17 t313.length co17) : Value).ownBlock) v323 t320) ∧ Aside0 (Below w.heap.size w w'))
             case atStart => exact ⟨(0), eqs, H', ⟨Nat.le_refl _⟩, ⟨by (with_reducible repeat (first | apply Kd.R_alloc | apply Kd.R_drewN | apply Kd.R_drew)); exact HO_6.out⟩, ⟨by (with_reducible repeat (first | apply Kd.R_alloc | apply Kd.R_drewN | apply Kd.R_drew)); exact HO_11.out⟩, ⟨blw⟩⟩
             case round =>
              clear H'
              try clear c1
              try clear p1
              try clear q1
              try clear hx1
              try clear c2
              try clear p2
              try clear c3
              try clear p3
              try clear q3
              try clear hx3
              try clear c4
              try clear p6
              try clear c7
              try clear c7b0
              try clear c7b1
              try clear c8
              try clear c9
              try clear c9b0
              try clear c10
              try clear c10b0
              try clear c11
              try clear c11b0
              try clear p12
              try clear q12
              try clear hx12
              try clear c13
              try clear c13b0
              try clear c13b1
              try clear c15
              try clear c15b0
              try clear c15b1
              try clear c18
              try clear c18b0
              try clear c19
              try clear c19b0
              try clear c20
              try clear c20b0
              try clear c22
              try clear c22b0
              try clear c22b1
              try clear c22b2
              try clear c23
              try clear c23b0
              try clear c23b1
              try clear c23b2
              try clear c24
              try clear c24b0
              try clear c24b1
              try clear c24b2
              try clear c25
              try clear c25b0
              try clear c25b1
              try clear c25b2
              try clear c30
              try clear c30b0
              try clear c30b1
              try clear c31
              try clear c31b0
              try clear c31b1
              try clear p31
              try clear q31
              try clear hx31
              try clear c33
              try clear hx318_0
              try clear hx318_1
              try clear hx318_2
              try clear hx318_3
              try clear hx318_4
              try clear p1
              try clear p12
              try clear p2
              try clear p3
              try clear p31
              try clear p318
              try clear p6
              try clear q1
              try clear q12
              try clear q3
              try clear q31
              try clear q318
              obtain ⟨x84_5, rfl, HA, HK5, HO_6, HO_11, HB⟩ := hrel
              cases gk with
              | zero => exact absurd HA.out (by simp [bulletinlaw48_ScriptBack.l2])
              | succ k5 =>
               have H := HA.out
               clear HA
               simp only [bulletinlaw48_ScriptBack.l2] at H
               by_cases c34 : x84_5 < (t313.length : Int)
               ·rw [if_pos c34] at H
                have c34b0 := decide_eq_true c34
                clear c34
                obtain ⟨c35, H⟩ := iteS H
                have c35b0 := decide_eq_true c35
                clear c35
                obtain ⟨c36, H⟩ := iteS H
                have c36b0 := decide_eq_true c36
                clear c36
                obtain ⟨c37, H⟩ := iteS H
                have c37b0 := decide_eq_true c37
                clear c37
                obtain ⟨c38, H⟩ := iteN H
                have c38b0 : (!(((rd_T30 t313 x84_5).f0) == ((rd_T30 t320 x84_5).f0)) || (!((((rd_T30 t313 x84_5).f1).toList) == (((rd_T30 t320 x84_5).f1).toList)) || (!((((rd_T30 t313 x84_5).f2).toList) == (((rd_T30 t320 x84_5).f2).toList)) || (!((((rd_T30 t313 x84_5).f3).toList) == (((rd_T30 t320 x84_5).f3).toList)) || (!(((rd_T30 t313 x84_5).f4) == ((rd_T30 t320 x84_5).f4))))))) = false := by simpa using c38
                clear c38
                have H' := Aside0.mk H
                clear H
                have p325 : 0 ≤ (x84_5 : Int) := od_
                have q325 : x84_5 < (t313.length : Int) := od_
                obtain ⟨ad325, e325, hx325_0, hx325_1, hx325_2, hx325_3, hx325_4⟩ := at_T30 (Kd.R_reads' HO_6.out).2.2 x84_5 p325 q325
                cases e325
                replace p325 := eq_true p325
                replace q325 := eq_true q325
                obtain ⟨Ao39, co39, eo39⟩ := Kd.R_slice HO_11.out
                subst eo39
                have p326 : 0 ≤ (x84_5 : Int) := od_
                have q326 : x84_5 < (t320.length : Int) := od_
                obtain ⟨ad326, e326, hx326_0, hx326_1, hx326_2, hx326_3, hx326_4⟩ := at_T30 (Kd.R_reads' HO_11.out).2.2 x84_5 p326 q326
                cases e326
                replace p326 := eq_true p326
                replace q326 := eq_true q326
                go_wp2
                repeat (go_quiet (fail); try go_wp2)
                go_roundg k5
                case measure => have := HJ4.out; have := HK2.out; have := HK3.out; have := HJ27.out; have := HK5.out; omega
                case rel => exact ⟨(wrap64 (x84_5 + 1)), eqs, H', ⟨by have := HJ4.out; have := HK2.out; have := HK3.out; have := HJ27.out; have := HK5.out; omega⟩, ⟨by (with_reducible repeat (first | apply Kd.R_alloc | apply Kd.R_drewN | apply Kd.R_drew)); exact HO_6.out⟩, ⟨by (with_reducible repeat (first | apply Kd.R_alloc | apply Kd.R_drewN | apply Kd.R_drew)); exact HO_11.out⟩, ⟨blw⟩⟩
               ·rw [if_neg c34] at H
                have c34b0 := decide_eq_false c34
                clear c34
                obtain rfl := Option.some.inj H
                go_wp2
                repeat (go_quiet (fail); try go_wp2)
                go_ret
                exact ⟨by first | rfl | (simp [errW_none, errW_some] <;> rfl) | (simp [*, errW_none, errW_some] <;> rfl), blw⟩
       ·rw [if_neg c15] at H
        have c15b0 := beq_eq_false_iff_ne.mpr c15
        have c15b1 := bne_iff_ne.mpr c15
        obtain rfl := Option.some.inj H
        go_wp2_with (first | (go_at_call 7; (with_reducible refine (script_Read.calls k2 a0 t313 t314 t315 _ ?side1 A14.out).mono ?_); (case side1 => exact Amb.at HG.out blw); rintro e w40 ⟨v316, rfl, ho0, hb⟩; have HO317 := Aside0.mk (Kd.R_lower ho0 (below_size blw)); replace HB := Aside0.mk (below_step blw hb); (try clear hb); (try clear ho0); obtain ⟨Ao41, co41, eo41⟩ := Kd.R_slice HO317.out; subst eo41))
        repeat (go_quiet (first | (go_at_call 7; (with_reducible refine (script_Read.calls k2 a0 t313 t314 t315 _ ?side1 A14.out).mono ?_); (case side1 => exact Amb.at HG.out blw); rintro e w40 ⟨v316, rfl, ho0, hb⟩; have HO317 := Aside0.mk (Kd.R_lower ho0 (below_size blw)); replace HB := Aside0.mk (below_step blw hb); (try clear hb); (try clear ho0); obtain ⟨Ao41, co41, eo41⟩ := Kd.R_slice HO317.out; subst eo41)); try go_wp2_with (first | (go_at_call 7; (with_reducible refine (script_Read.calls k2 a0 t313 t314 t315 _ ?side1 A14.out).mono ?_); (case side1 => exact Amb.at HG.out blw); rintro e w40 ⟨v316, rfl, ho0, hb⟩; have HO317 := Aside0.mk (Kd.R_lower ho0 (below_size blw)); replace HB := Aside0.mk (below_step blw hb); (try clear hb); (try clear ho0); obtain ⟨Ao41, co41, eo41⟩ := Kd.R_slice HO317.out; subst eo41)))
        go_ret
        exact ⟨by first | rfl | (simp [errW_none, errW_some] <;> rfl) | (simp [*, errW_none, errW_some] <;> rfl), blw⟩

/-- THE ONE PURE STATEMENT of bulletinlaw48_ScriptBack: yours. -/
def bulletinlaw48_ScriptBack.Pure : Prop := ∀ (a0 : ByteArray) (a1 : ByteArray), a0.size ≤ 140737488351232 → a1.size ≤ 140737488351232 → ∃ k, bulletinlaw48_ScriptBack.f k a0 a1 = some true
theorem bulletinlaw48_ScriptBack.walk (P : bulletinlaw48_ScriptBack.Pure) (a0 : ByteArray) (a1 : ByteArray) (w : World) (hG : Amb w) (w0 : a0.size ≤ 140737488351232) (w1 : a1.size ≤ 140737488351232) :
    Calls Tryd.prog 4 #[.string a0, .string a1] w fun e w' => e = .returned (.bool true) ∧ Below w.heap.size w w' := by
  obtain ⟨k, h⟩ := P a0 a1 w0 w1
  refine (bulletinlaw48_ScriptBack.calls k a0 a1 true w hG h).mono ?_
  rintro e w' ⟨rfl, hd⟩
  exact ⟨rfl, hd⟩

end Go.Proofs.YtcgfaagadejpmaaDoor.Q
