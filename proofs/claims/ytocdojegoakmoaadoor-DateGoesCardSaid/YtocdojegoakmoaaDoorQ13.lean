-- Written by a program of this session (wip/myprint) out of the translation, for YtocdojegoakmoaaDoor.
import Derived.Test.YtocdojegoakmoaaDoorQ0
import Derived.Test.YtocdojegoakmoaaDoorQ2
import Derived.Test.YtocdojegoakmoaaDoorQ10
import Derived.Test.YtocdojegoakmoaaDoorQ12
namespace Go.Proofs.YtocdojegoakmoaaDoor.Q
open Go.RowKit Go.Proofs.YtocdojegoakmoaaDoorW.PrintWords Go.Proofs.YtocdojegoakmoaaDoorW.PrintLast Go.Proofs.YtocdojegoakmoaaDoorW.PrintMore
attribute [local go_sem] max2_int min2_int max_two min_two max_three min_three max_four min_four   -- for this text's walks alone
set_option linter.unusedVariables false
set_option linter.unusedSimpArgs false

/-! ### bulletinlaw22_DateGoes: function 7 -/
mutual
def bulletinlaw22_DateGoes.j0 : Nat → Int → Bool → Option (Bool)
  | 0, _, _ => none
  | k + 1, x0, x17 => if x17 = true then (some true) else ((date_Of.f k x0).bind fun bt290 => ((date_Of.f k (wrap64 (x0 + 1))).bind fun bt299 => (if bt290.2.2.2.2.2.2.2 = true then (bulletinlaw22_DateGoes.j1 k x0 (!bt299.2.2.2.2.2.2.2) bt290.1 bt290.2.1 bt290.2.2.1 bt290.2.2.2.1 bt290.2.2.2.2.1 bt290.2.2.2.2.2.1 bt290.2.2.2.2.2.2.1 bt299.1 bt299.2.1 bt299.2.2.1 bt299.2.2.2.1 bt299.2.2.2.2.1 bt299.2.2.2.2.2.1 bt299.2.2.2.2.2.2.1) else (bulletinlaw22_DateGoes.j1 k x0 true bt290.1 bt290.2.1 bt290.2.2.1 bt290.2.2.2.1 bt290.2.2.2.2.1 bt290.2.2.2.2.2.1 bt290.2.2.2.2.2.2.1 bt299.1 bt299.2.1 bt299.2.2.1 bt299.2.2.2.1 bt299.2.2.2.2.1 bt299.2.2.2.2.2.1 bt299.2.2.2.2.2.2.1))))
def bulletinlaw22_DateGoes.j1 : Nat → Int → Bool → Int → Int → Int → Int → Int → Int → Int → Int → Int → Int → Int → Int → Int → Int → Option (Bool)
  | 0, _, _, _, _, _, _, _, _, _, _, _, _, _, _, _, _ => none
  | k + 1, x0, x34, x299000, x299001, x299002, x299003, x299004, x299005, x299006, x308000, x308001, x308002, x308003, x308004, x308005, x308006 => if x34 = true then (none) else (if x299000 = x308000 then (bulletinlaw22_DateGoes.j2 k x0 (wrap64 ((wrap64 ((wrap64 (x299003 * 3600)) + (wrap64 (x299004 * 60)))) + x299005)) (wrap64 ((wrap64 ((wrap64 (x308003 * 3600)) + (wrap64 (x308004 * 60)))) + x308005)) (x299001 == x308001) x299000 x299001 x299002 x299003 x299004 x299005 x299006 x308000 x308001 x308002 x308003 x308004 x308005 x308006) else (bulletinlaw22_DateGoes.j2 k x0 (wrap64 ((wrap64 ((wrap64 (x299003 * 3600)) + (wrap64 (x299004 * 60)))) + x299005)) (wrap64 ((wrap64 ((wrap64 (x308003 * 3600)) + (wrap64 (x308004 * 60)))) + x308005)) false x299000 x299001 x299002 x299003 x299004 x299005 x299006 x308000 x308001 x308002 x308003 x308004 x308005 x308006))
def bulletinlaw22_DateGoes.j2 : Nat → Int → Int → Int → Bool → Int → Int → Int → Int → Int → Int → Int → Int → Int → Int → Int → Int → Int → Int → Option (Bool)
  | 0, _, _, _, _, _, _, _, _, _, _, _, _, _, _, _, _, _, _ => none
  | k + 1, x0, x7, x8, x9, x299000, x299001, x299002, x299003, x299004, x299005, x299006, x308000, x308001, x308002, x308003, x308004, x308005, x308006 => if x7 < 86399 then (if x8 = (wrap64 (x7 + 1)) then (if x9 = true then (if x299002 = x308002 then (if x299006 = x308006 then ((date_Day.f (wrap64 (x0 + 1))).bind fun t308 => ((date_Day.f x0).bind fun t309 => (some (t308 == t309)))) else (none)) else (none)) else (none)) else (none)) else (if x8 = 0 then (if x308006 = (Int.tmod (wrap64 (x299006 + 1)) 7) then ((date_Day.f (wrap64 (x0 + 1))).bind fun t310 => ((date_Day.f x0).bind fun t311 => (bulletinlaw22_DateGoes.j3 k x9 (t310 != (wrap64 (t311 + 1))) x299000 x299001 x299002 x299003 x299004 x299005 x299006 x308000 x308001 x308002 x308003 x308004 x308005 x308006))) else (bulletinlaw22_DateGoes.j3 k x9 true x299000 x299001 x299002 x299003 x299004 x299005 x299006 x308000 x308001 x308002 x308003 x308004 x308005 x308006)) else (bulletinlaw22_DateGoes.j3 k x9 true x299000 x299001 x299002 x299003 x299004 x299005 x299006 x308000 x308001 x308002 x308003 x308004 x308005 x308006))
def bulletinlaw22_DateGoes.j3 : Nat → Bool → Bool → Int → Int → Int → Int → Int → Int → Int → Int → Int → Int → Int → Int → Int → Int → Option (Bool)
  | 0, _, _, _, _, _, _, _, _, _, _, _, _, _, _, _, _ => none
  | k + 1, x9, x117, x299000, x299001, x299002, x299003, x299004, x299005, x299006, x308000, x308001, x308002, x308003, x308004, x308005, x308006 => if x117 = true then (none) else (if x308002 = 1 then (if x299002 ≥ 28 then (if x308000 = x299000 then (if x308001 = (wrap64 (x299001 + 1)) then (some true) else (if x308000 = (wrap64 (x299000 + 1)) then (if x308001 = 1 then (some (x299001 == 12)) else (none)) else (none))) else (if x308000 = (wrap64 (x299000 + 1)) then (if x308001 = 1 then (some (x299001 == 12)) else (none)) else (none))) else (none)) else (if x9 = true then (some (x308002 == (wrap64 (x299002 + 1)))) else (none)))
end
def bulletinlaw22_DateGoes.f (k : Nat) (a0 : Int) : Option (Bool) := (bulletinlaw22_works.f k).bind fun t289 => (if t289 = true then (if a0 < 0 then (bulletinlaw22_DateGoes.j0 k a0 true) else (bulletinlaw22_DateGoes.j0 k a0 (decide (a0 ≥ 1099511627776)))) else (none))
theorem bulletinlaw22_DateGoes.mono_l : ∀ k, (∀ y0 y1, LeO (bulletinlaw22_DateGoes.j0 k y0 y1) (bulletinlaw22_DateGoes.j0 (k + 1) y0 y1)) ∧ (∀ y0 y1 y2 y3 y4 y5 y6 y7 y8 y9 y10 y11 y12 y13 y14 y15, LeO (bulletinlaw22_DateGoes.j1 k y0 y1 y2 y3 y4 y5 y6 y7 y8 y9 y10 y11 y12 y13 y14 y15) (bulletinlaw22_DateGoes.j1 (k + 1) y0 y1 y2 y3 y4 y5 y6 y7 y8 y9 y10 y11 y12 y13 y14 y15)) ∧ (∀ y0 y1 y2 y3 y4 y5 y6 y7 y8 y9 y10 y11 y12 y13 y14 y15 y16 y17, LeO (bulletinlaw22_DateGoes.j2 k y0 y1 y2 y3 y4 y5 y6 y7 y8 y9 y10 y11 y12 y13 y14 y15 y16 y17) (bulletinlaw22_DateGoes.j2 (k + 1) y0 y1 y2 y3 y4 y5 y6 y7 y8 y9 y10 y11 y12 y13 y14 y15 y16 y17)) ∧ (∀ y0 y1 y2 y3 y4 y5 y6 y7 y8 y9 y10 y11 y12 y13 y14 y15, LeO (bulletinlaw22_DateGoes.j3 k y0 y1 y2 y3 y4 y5 y6 y7 y8 y9 y10 y11 y12 y13 y14 y15) (bulletinlaw22_DateGoes.j3 (k + 1) y0 y1 y2 y3 y4 y5 y6 y7 y8 y9 y10 y11 y12 y13 y14 y15))
  | 0 => ⟨fun _ _ r h => by simp [bulletinlaw22_DateGoes.j0] at h, fun _ _ _ _ _ _ _ _ _ _ _ _ _ _ _ _ r h => by simp [bulletinlaw22_DateGoes.j1] at h, fun _ _ _ _ _ _ _ _ _ _ _ _ _ _ _ _ _ _ r h => by simp [bulletinlaw22_DateGoes.j2] at h, fun _ _ _ _ _ _ _ _ _ _ _ _ _ _ _ _ r h => by simp [bulletinlaw22_DateGoes.j3] at h⟩
  | k + 1 => by
    obtain ⟨ih0, ih1, ih2, ih3⟩ := bulletinlaw22_DateGoes.mono_l k
    refine ⟨?_, ?_, ?_, ?_⟩
    · intro y0 y1
      unfold bulletinlaw22_DateGoes.j0
      repeat' first
      | (with_reducible exact ih0 _ _)
      | (with_reducible exact ih1 _ _ _ _ _ _ _ _ _ _ _ _ _ _ _ _)
      | (with_reducible exact ih2 _ _ _ _ _ _ _ _ _ _ _ _ _ _ _ _ _ _)
      | (with_reducible exact ih3 _ _ _ _ _ _ _ _ _ _ _ _ _ _ _ _)
      | (with_reducible exact bulletinlaw22_works.mono _)
      | (with_reducible exact date_Of.mono _ _)
      | (with_reducible exact LeO.refl _)
      | (with_reducible exact LeO.none _)
      | (with_reducible refine LeO.ite ?_ ?_)
      | (with_reducible refine LeO.bind ?_ (fun _ => ?_))
      | exact ih0 _ _
      | exact ih1 _ _ _ _ _ _ _ _ _ _ _ _ _ _ _ _
      | exact ih2 _ _ _ _ _ _ _ _ _ _ _ _ _ _ _ _ _ _
      | exact ih3 _ _ _ _ _ _ _ _ _ _ _ _ _ _ _ _
      | exact bulletinlaw22_works.mono _
      | exact date_Of.mono _ _
      | exact LeO.none _
      | refine LeO.ite ?_ ?_
      | refine LeO.bind ?_ (fun _ => ?_)
    · intro y0 y1 y2 y3 y4 y5 y6 y7 y8 y9 y10 y11 y12 y13 y14 y15
      unfold bulletinlaw22_DateGoes.j1
      repeat' first
      | (with_reducible exact ih0 _ _)
      | (with_reducible exact ih1 _ _ _ _ _ _ _ _ _ _ _ _ _ _ _ _)
      | (with_reducible exact ih2 _ _ _ _ _ _ _ _ _ _ _ _ _ _ _ _ _ _)
      | (with_reducible exact ih3 _ _ _ _ _ _ _ _ _ _ _ _ _ _ _ _)
      | (with_reducible exact bulletinlaw22_works.mono _)
      | (with_reducible exact date_Of.mono _ _)
      | (with_reducible exact LeO.refl _)
      | (with_reducible exact LeO.none _)
      | (with_reducible refine LeO.ite ?_ ?_)
      | (with_reducible refine LeO.bind ?_ (fun _ => ?_))
      | exact ih0 _ _
      | exact ih1 _ _ _ _ _ _ _ _ _ _ _ _ _ _ _ _
      | exact ih2 _ _ _ _ _ _ _ _ _ _ _ _ _ _ _ _ _ _
      | exact ih3 _ _ _ _ _ _ _ _ _ _ _ _ _ _ _ _
      | exact bulletinlaw22_works.mono _
      | exact date_Of.mono _ _
      | exact LeO.none _
      | refine LeO.ite ?_ ?_
      | refine LeO.bind ?_ (fun _ => ?_)
    · intro y0 y1 y2 y3 y4 y5 y6 y7 y8 y9 y10 y11 y12 y13 y14 y15 y16 y17
      unfold bulletinlaw22_DateGoes.j2
      repeat' first
      | (with_reducible exact ih0 _ _)
      | (with_reducible exact ih1 _ _ _ _ _ _ _ _ _ _ _ _ _ _ _ _)
      | (with_reducible exact ih2 _ _ _ _ _ _ _ _ _ _ _ _ _ _ _ _ _ _)
      | (with_reducible exact ih3 _ _ _ _ _ _ _ _ _ _ _ _ _ _ _ _)
      | (with_reducible exact bulletinlaw22_works.mono _)
      | (with_reducible exact date_Of.mono _ _)
      | (with_reducible exact LeO.refl _)
      | (with_reducible exact LeO.none _)
      | (with_reducible refine LeO.ite ?_ ?_)
      | (with_reducible refine LeO.bind ?_ (fun _ => ?_))
      | exact ih0 _ _
      | exact ih1 _ _ _ _ _ _ _ _ _ _ _ _ _ _ _ _
      | exact ih2 _ _ _ _ _ _ _ _ _ _ _ _ _ _ _ _ _ _
      | exact ih3 _ _ _ _ _ _ _ _ _ _ _ _ _ _ _ _
      | exact bulletinlaw22_works.mono _
      | exact date_Of.mono _ _
      | exact LeO.none _
      | refine LeO.ite ?_ ?_
      | refine LeO.bind ?_ (fun _ => ?_)
    · intro y0 y1 y2 y3 y4 y5 y6 y7 y8 y9 y10 y11 y12 y13 y14 y15
      unfold bulletinlaw22_DateGoes.j3
      repeat' first
      | (with_reducible exact ih0 _ _)
      | (with_reducible exact ih1 _ _ _ _ _ _ _ _ _ _ _ _ _ _ _ _)
      | (with_reducible exact ih2 _ _ _ _ _ _ _ _ _ _ _ _ _ _ _ _ _ _)
      | (with_reducible exact ih3 _ _ _ _ _ _ _ _ _ _ _ _ _ _ _ _)
      | (with_reducible exact bulletinlaw22_works.mono _)
      | (with_reducible exact date_Of.mono _ _)
      | (with_reducible exact LeO.refl _)
      | (with_reducible exact LeO.none _)
      | (with_reducible refine LeO.ite ?_ ?_)
      | (with_reducible refine LeO.bind ?_ (fun _ => ?_))
      | exact ih0 _ _
      | exact ih1 _ _ _ _ _ _ _ _ _ _ _ _ _ _ _ _
      | exact ih2 _ _ _ _ _ _ _ _ _ _ _ _ _ _ _ _ _ _
      | exact ih3 _ _ _ _ _ _ _ _ _ _ _ _ _ _ _ _
      | exact bulletinlaw22_works.mono _
      | exact date_Of.mono _ _
      | exact LeO.none _
      | refine LeO.ite ?_ ?_
      | refine LeO.bind ?_ (fun _ => ?_)
theorem bulletinlaw22_DateGoes.mono : ∀ a0 k, LeO (bulletinlaw22_DateGoes.f k a0) (bulletinlaw22_DateGoes.f (k + 1) a0) := by
  intro a0 k
  obtain ⟨ih0, ih1, ih2, ih3⟩ := bulletinlaw22_DateGoes.mono_l k
  unfold bulletinlaw22_DateGoes.f
  repeat' first
      | (with_reducible exact ih0 _ _)
      | (with_reducible exact ih1 _ _ _ _ _ _ _ _ _ _ _ _ _ _ _ _)
      | (with_reducible exact ih2 _ _ _ _ _ _ _ _ _ _ _ _ _ _ _ _ _ _)
      | (with_reducible exact ih3 _ _ _ _ _ _ _ _ _ _ _ _ _ _ _ _)
      | (with_reducible exact bulletinlaw22_works.mono _)
      | (with_reducible exact date_Of.mono _ _)
      | (with_reducible exact LeO.refl _)
      | (with_reducible exact LeO.none _)
      | (with_reducible refine LeO.ite ?_ ?_)
      | (with_reducible refine LeO.bind ?_ (fun _ => ?_))
      | exact ih0 _ _
      | exact ih1 _ _ _ _ _ _ _ _ _ _ _ _ _ _ _ _
      | exact ih2 _ _ _ _ _ _ _ _ _ _ _ _ _ _ _ _ _ _
      | exact ih3 _ _ _ _ _ _ _ _ _ _ _ _ _ _ _ _
      | exact bulletinlaw22_works.mono _
      | exact date_Of.mono _ _
      | exact LeO.none _
      | refine LeO.ite ?_ ?_
      | refine LeO.bind ?_ (fun _ => ?_)
set_option maxHeartbeats 8000000 in
set_option maxRecDepth 100000 in
theorem bulletinlaw22_DateGoes.calls (k : Nat) (a0 : Int) (r : Bool) (w : World) (hG : Amb w) (h : bulletinlaw22_DateGoes.f k a0 = some r) :
    Calls Tryd.prog 7 #[.int .i64 a0] w fun e w' => e = .returned (.bool r) ∧ Below w.heap.size w w' := by
  have hu33 := Tryd.underlying33
  have HB := Aside0.mk (Below.refl w.heap.size w)
  have H : ((bulletinlaw22_works.f k).bind fun t289 => (if t289 = true then (if a0 < 0 then (bulletinlaw22_DateGoes.j0 k a0 true) else (bulletinlaw22_DateGoes.j0 k a0 (decide (a0 ≥ 1099511627776)))) else (none))) = some r := h
  clear h
  have HG := Aside0.mk hG
  clear hG
  replace H := Option.bind_eq_some_iff.mp H
  obtain ⟨t289, A20, H⟩ := H
  replace H : (if t289 = true then (if a0 < 0 then (bulletinlaw22_DateGoes.j0 k a0 true) else (bulletinlaw22_DateGoes.j0 k a0 (decide (a0 ≥ 1099511627776)))) else (none)) = some r := H
  have A2 := Aside0.mk A20
  clear A20
  by_cases c3 : t289 = true
  · subst c3
    have H1 : (if a0 < 0 then (bulletinlaw22_DateGoes.j0 k a0 true) else (bulletinlaw22_DateGoes.j0 k a0 (decide (a0 ≥ 1099511627776)))) = some r := by rw [if_pos rfl] at H; exact H
    clear H
    have H := H1
    clear H1
    have HC4 := Aside0.mk H
    clear H
    go_enter Tryd.func7, Tryd.ntmps7
    go_upto_region 3 with (first | ((with_reducible refine gate_callee (f := 12) rfl ?_); refine goesL_ (some 10) rfl rfl Tryd.func12 (by kernel_rfl) rfl #[] rfl (by (try simp only [List.map_toArray, List.map_cons, List.map_nil]); first | done | rfl | (simp only [List.length_drop, List.length_take]; rfl)) ?_; (with_reducible refine (bulletinlaw22_works.calls k  true _ ?side1 A2.out).mono ?_); (case side1 => exact Amb.at HG.out (by repeat (first | (with_reducible first | exact HB.out | apply below_alloc | apply pw_below_drewN | apply below_drew1) | exact HB.out))); rintro e w5 ⟨rfl, hb⟩; refine ⟨_, rfl, ?_⟩; have n0_ := Aside0.mk (below_step (by repeat (first | (with_reducible first | exact HB.out | apply below_alloc | apply pw_below_drewN | apply below_drew1) | exact HB.out)) hb); clear HB; have HB := n0_; clear n0_; (try clear hb); (try clear hb2); (try clear hk); (try clear hi)))
    (try simp only [Act.put, List.setIfInBounds_toArray, List.set_cons_zero, List.set_cons_succ])
    go_cut [17] (fun v17 wc => ∃ (kq : Nat) (x17_3 : Bool), v17 = .bool x17_3 ∧ Aside0 (bulletinlaw22_DateGoes.j0 kq a0 x17_3 = some r) ∧ Aside0 (kq ≤ k) ∧ Aside0 (Below w.heap.size w wc))
    case first =>
      have H := HC4.out
      clear HC4
      by_cases c6 : a0 < 0
      · rw [if_pos c6] at H
        have c6b0 : decide (a0 < 0) = true := decide_eq_true c6
        clear c6
        (first | rw [c6b0] | (simp only [i64_w, i32_w]; rw [c6b0]) | skip)
        have H' := Aside0.mk H
        clear H
        go_wp2
        go_meet
        case rel => exact ⟨_, (true), (by first | rfl | (simp; done) | (simp [*]; done)), H', ⟨by first | omega | exact Nat.le_refl _⟩, ⟨by repeat (first | (with_reducible first | exact HB.out | apply below_alloc | apply pw_below_drewN | apply below_drew1) | exact HB.out)⟩⟩
      · rw [if_neg c6] at H
        have c6b0 : decide (a0 < 0) = false := decide_eq_false c6
        clear c6
        (first | rw [c6b0] | (simp only [i64_w, i32_w]; rw [c6b0]) | skip)
        have H' := Aside0.mk H
        clear H
        go_wp2
        go_meet
        case rel => exact ⟨_, (decide (a0 ≥ 1099511627776)), (by first | rfl | (simp; done) | (simp [*]; done)), H', ⟨by first | omega | exact Nat.le_refl _⟩, ⟨by repeat (first | (with_reducible first | exact HB.out | apply below_alloc | apply pw_below_drewN | apply below_drew1) | exact HB.out)⟩⟩
    case rest =>
      clear HC4
      try clear c1
      try clear p2
      try clear c3
      try clear c6
      try clear c6b0
      obtain ⟨kq, x17_3, rfl, HA, HJ3, HB⟩ := hcut
      cases kq with
      | zero => exact absurd HA.out (by simp [bulletinlaw22_DateGoes.j0])
      | succ kj3 =>
        have H := HA.out
        clear HA
        simp only [bulletinlaw22_DateGoes.j0] at H
        by_cases c7 : x17_3 = true
        · subst c7
          have H1 : (some true) = some r := by rw [if_pos rfl] at H; exact H
          clear H
          have H := H1
          clear H1
          obtain rfl := Option.some.inj H
          go_wp2
          go_ret
          exact ⟨by first | rfl | (simp [errW_none, errW_some] <;> rfl) | (simp [*, errW_none, errW_some] <;> rfl), by repeat (first | (with_reducible first | exact HB.out | apply below_alloc | apply pw_below_drewN | apply below_drew1) | exact HB.out)⟩
        · replace c7 := Bool.eq_false_iff.mpr c7
          subst c7
          have H1 : ((date_Of.f kj3 a0).bind fun bt290 => ((date_Of.f kj3 (wrap64 (a0 + 1))).bind fun bt299 => (if bt290.2.2.2.2.2.2.2 = true then (bulletinlaw22_DateGoes.j1 kj3 a0 (!bt299.2.2.2.2.2.2.2) bt290.1 bt290.2.1 bt290.2.2.1 bt290.2.2.2.1 bt290.2.2.2.2.1 bt290.2.2.2.2.2.1 bt290.2.2.2.2.2.2.1 bt299.1 bt299.2.1 bt299.2.2.1 bt299.2.2.2.1 bt299.2.2.2.2.1 bt299.2.2.2.2.2.1 bt299.2.2.2.2.2.2.1) else (bulletinlaw22_DateGoes.j1 kj3 a0 true bt290.1 bt290.2.1 bt290.2.2.1 bt290.2.2.2.1 bt290.2.2.2.2.1 bt290.2.2.2.2.2.1 bt290.2.2.2.2.2.2.1 bt299.1 bt299.2.1 bt299.2.2.1 bt299.2.2.2.1 bt299.2.2.2.2.1 bt299.2.2.2.2.2.1 bt299.2.2.2.2.2.2.1)))) = some r := by rw [if_neg (show ¬ (false = true) by decide)] at H; exact H
          clear H
          have H := H1
          clear H1
          replace H := Option.bind_eq_some_iff.mp H
          obtain ⟨⟨t290, t291, t292, t293, t294, t295, t296, t297⟩, A80, H⟩ := H
          replace H : ((date_Of.f kj3 (wrap64 (a0 + 1))).bind fun bt299 => (if t297 = true then (bulletinlaw22_DateGoes.j1 kj3 a0 (!bt299.2.2.2.2.2.2.2) t290 t291 t292 t293 t294 t295 t296 bt299.1 bt299.2.1 bt299.2.2.1 bt299.2.2.2.1 bt299.2.2.2.2.1 bt299.2.2.2.2.2.1 bt299.2.2.2.2.2.2.1) else (bulletinlaw22_DateGoes.j1 kj3 a0 true t290 t291 t292 t293 t294 t295 t296 bt299.1 bt299.2.1 bt299.2.2.1 bt299.2.2.2.1 bt299.2.2.2.2.1 bt299.2.2.2.2.2.1 bt299.2.2.2.2.2.2.1))) = some r := H
          have A8 := Aside0.mk A80
          clear A80
          replace H := Option.bind_eq_some_iff.mp H
          obtain ⟨⟨t299, t300, t301, t302, t303, t304, t305, t306⟩, A90, H⟩ := H
          replace H : (if t297 = true then (bulletinlaw22_DateGoes.j1 kj3 a0 (!t306) t290 t291 t292 t293 t294 t295 t296 t299 t300 t301 t302 t303 t304 t305) else (bulletinlaw22_DateGoes.j1 kj3 a0 true t290 t291 t292 t293 t294 t295 t296 t299 t300 t301 t302 t303 t304 t305)) = some r := H
          have A9 := Aside0.mk A90
          clear A90
          have HC10 := Aside0.mk H
          clear H
          go_upto_region 7 with (first | ((with_reducible refine gate_callee (f := 15) rfl ?_); refine goesL_ (some 20) rfl rfl Tryd.func15 (by kernel_rfl) rfl #[.int .i64 a0] rfl (by (try simp only [List.map_toArray, List.map_cons, List.map_nil]); first | done | rfl | (simp only [List.length_drop, List.length_take]; rfl)) ?_; (with_reducible refine (date_Of.calls kj3 a0 t290 t291 t292 t293 t294 t295 t296 t297 _ ?side1 A8.out).mono ?_); (case side1 => exact Amb.at HG.out (by repeat (first | (with_reducible first | exact HB.out | apply below_alloc | apply pw_below_drewN | apply below_drew1) | exact HB.out))); rintro e w11 ⟨rfl, hb⟩; refine ⟨_, rfl, ?_⟩; have n0_ := Aside0.mk (below_step (by repeat (first | (with_reducible first | exact HB.out | apply below_alloc | apply pw_below_drewN | apply below_drew1) | exact HB.out)) hb); clear HB; have HB := n0_; clear n0_; (try clear hb); (try clear hb2); (try clear hk); (try clear hi)) | ((with_reducible refine gate_dst (N := 3) rfl ?_); refine box_event ?hg (N := 3) ?hd (cs := #[.int .i64 0, .int .i64 0, .int .i64 0, .int .i64 0, .int .i64 0, .int .i64 0, .int .i64 0]) (t := 33) ?hr ?_; (case hd => rfl); (case hg => rfl); (case hr => first | (go_simp; done) | (go_simp; rfl)); intro gb298 hg w12 hbox hb; have n0_ := Aside0.mk (below_step (by repeat (first | (with_reducible first | exact HB.out | apply below_alloc | apply pw_below_drewN | apply below_drew1) | exact HB.out)) hb); have n1_ := Aside0.mk (hbox); have n2_ := Aside0.mk ((by rw [hg]; exact (below_size (by repeat (first | (with_reducible first | exact HB.out | apply below_alloc | apply pw_below_drewN | apply below_drew1) | exact HB.out))) : w.heap.size ≤ gb298)); have n3_ := Aside0.mk ((by rw [hg]; exact (below_size (by repeat (first | (with_reducible first | exact HB.out | apply below_alloc | apply pw_below_drewN | apply below_drew1) | exact HB.out))) : w.heap.size ≤ gb298)); clear HB; have HB := n0_; have BK298 := n1_; have GW298 := n2_; have GE298 := n3_; clear n0_ n1_ n2_ n3_; clear hb hbox hg; have hcz13_0 : w12.cell? ⟨gb298, 0, none⟩ = some (.int .i64 0) := (blk_cell BK298.out 0).trans rfl; have hcz13_1 : w12.cell? ⟨gb298, 1, none⟩ = some (.int .i64 0) := (blk_cell BK298.out 1).trans rfl; have hcz13_2 : w12.cell? ⟨gb298, 2, none⟩ = some (.int .i64 0) := (blk_cell BK298.out 2).trans rfl; have hcz13_3 : w12.cell? ⟨gb298, 3, none⟩ = some (.int .i64 0) := (blk_cell BK298.out 3).trans rfl; have hcz13_4 : w12.cell? ⟨gb298, 4, none⟩ = some (.int .i64 0) := (blk_cell BK298.out 4).trans rfl; have hcz13_5 : w12.cell? ⟨gb298, 5, none⟩ = some (.int .i64 0) := (blk_cell BK298.out 5).trans rfl; have hcz13_6 : w12.cell? ⟨gb298, 6, none⟩ = some (.int .i64 0) := (blk_cell BK298.out 6).trans rfl; have hfz13_0 := blk_frozen BK298.out 0; have hfz13_1 := blk_frozen BK298.out 1; have hfz13_2 := blk_frozen BK298.out 2; have hfz13_3 := blk_frozen BK298.out 3; have hfz13_4 := blk_frozen BK298.out 4; have hfz13_5 := blk_frozen BK298.out 5; have hfz13_6 := blk_frozen BK298.out 6) | ((with_reducible refine gate_callee (f := 15) rfl ?_); refine goesL_ (some 26) rfl rfl Tryd.func15 (by kernel_rfl) rfl #[.int .i64 (wrap64 (a0 + 1))] rfl (by (try simp only [List.map_toArray, List.map_cons, List.map_nil]); first | done | rfl | (simp only [List.length_drop, List.length_take]; rfl)) ?_; (with_reducible refine (date_Of.calls kj3 (wrap64 (a0 + 1)) t299 t300 t301 t302 t303 t304 t305 t306 _ ?side1 A9.out).mono ?_); (case side1 => exact Amb.at HG.out (by repeat (first | (with_reducible first | exact HB.out | apply below_alloc | apply pw_below_drewN | apply below_drew1 | refine below_set ?_ GE298.out) | exact HB.out))); rintro e w14 ⟨rfl, hb⟩; refine ⟨_, rfl, ?_⟩; have n0_ := Aside0.mk (blk_below (g := gb298) (o := .cells #[.int .i64 t290, .int .i64 t291, .int .i64 t292, .int .i64 t293, .int .i64 t294, .int .i64 t295, .int .i64 t296] 33 (0, 0)) (by (with_reducible repeat (first | refine blk_drewN ?_ _ | refine blk_drew ?_ | refine blk_alloc ?_ _)); refine blk_put (cs := #[.int .i64 t290, .int .i64 t291, .int .i64 t292, .int .i64 t293, .int .i64 t294, .int .i64 t295, .int .i64 0]) ?_ 6 _ rfl; (with_reducible repeat (first | refine blk_drewN ?_ _ | refine blk_drew ?_ | refine blk_alloc ?_ _)); refine blk_put (cs := #[.int .i64 t290, .int .i64 t291, .int .i64 t292, .int .i64 t293, .int .i64 t294, .int .i64 0, .int .i64 0]) ?_ 5 _ rfl; (with_reducible repeat (first | refine blk_drewN ?_ _ | refine blk_drew ?_ | refine blk_alloc ?_ _)); refine blk_put (cs := #[.int .i64 t290, .int .i64 t291, .int .i64 t292, .int .i64 t293, .int .i64 0, .int .i64 0, .int .i64 0]) ?_ 4 _ rfl; (with_reducible repeat (first | refine blk_drewN ?_ _ | refine blk_drew ?_ | refine blk_alloc ?_ _)); refine blk_put (cs := #[.int .i64 t290, .int .i64 t291, .int .i64 t292, .int .i64 0, .int .i64 0, .int .i64 0, .int .i64 0]) ?_ 3 _ rfl; (with_reducible repeat (first | refine blk_drewN ?_ _ | refine blk_drew ?_ | refine blk_alloc ?_ _)); refine blk_put (cs := #[.int .i64 t290, .int .i64 t291, .int .i64 0, .int .i64 0, .int .i64 0, .int .i64 0, .int .i64 0]) ?_ 2 _ rfl; (with_reducible repeat (first | refine blk_drewN ?_ _ | refine blk_drew ?_ | refine blk_alloc ?_ _)); refine blk_put (cs := #[.int .i64 t290, .int .i64 0, .int .i64 0, .int .i64 0, .int .i64 0, .int .i64 0, .int .i64 0]) ?_ 1 _ rfl; (with_reducible repeat (first | refine blk_drewN ?_ _ | refine blk_drew ?_ | refine blk_alloc ?_ _)); refine blk_put (cs := #[.int .i64 0, .int .i64 0, .int .i64 0, .int .i64 0, .int .i64 0, .int .i64 0, .int .i64 0]) ?_ 0 _ rfl; (with_reducible repeat (first | refine blk_drewN ?_ _ | refine blk_drew ?_ | refine blk_alloc ?_ _)); exact BK298.out) hb); have n1_ := Aside0.mk (below_step (by repeat (first | (with_reducible first | exact HB.out | apply below_alloc | apply pw_below_drewN | apply below_drew1 | refine below_set ?_ GE298.out) | exact HB.out)) hb); clear BK298; clear HB; have BK298 := n0_; have HB := n1_; clear n0_ n1_; (try clear hb); (try clear hb2); (try clear hk); (try clear hi)) | ((with_reducible refine gate_dst (N := 5) rfl ?_); refine box_event ?hg (N := 5) ?hd (cs := #[.int .i64 0, .int .i64 0, .int .i64 0, .int .i64 0, .int .i64 0, .int .i64 0, .int .i64 0]) (t := 33) ?hr ?_; (case hd => rfl); (case hg => rfl); (case hr => first | (go_simp; done) | (go_simp; rfl)); intro gb307 hg w15 hbox hb; have n0_ := Aside0.mk (blk_below (g := gb298) (o := .cells #[.int .i64 t290, .int .i64 t291, .int .i64 t292, .int .i64 t293, .int .i64 t294, .int .i64 t295, .int .i64 t296] 33 (0, 0)) (by (with_reducible repeat (first | refine blk_drewN ?_ _ | refine blk_drew ?_ | refine blk_alloc ?_ _)); exact BK298.out) hb); have n1_ := Aside0.mk (below_step (by repeat (first | (with_reducible first | exact HB.out | apply below_alloc | apply pw_below_drewN | apply below_drew1 | refine below_set ?_ GE298.out) | exact HB.out)) hb); have n2_ := Aside0.mk (hbox); have n3_ := Aside0.mk ((by rw [hg]; exact (below_size (by repeat (first | (with_reducible first | exact HB.out | apply below_alloc | apply pw_below_drewN | apply below_drew1 | refine below_set ?_ GE298.out) | exact HB.out))) : w.heap.size ≤ gb307)); have n4_ := Aside0.mk ((by rw [hg]; exact (below_size (by repeat (first | (with_reducible first | exact HB.out | apply below_alloc | apply pw_below_drewN | apply below_drew1 | refine below_set ?_ GE298.out) | exact HB.out))) : w.heap.size ≤ gb307)); have n5_ := Aside0.mk ((by rw [hg]; exact Nat.ne_of_lt (blk_lt (g := gb298) (o := .cells #[.int .i64 t290, .int .i64 t291, .int .i64 t292, .int .i64 t293, .int .i64 t294, .int .i64 t295, .int .i64 t296] 33 (0, 0)) (by (with_reducible repeat (first | refine blk_drewN ?_ _ | refine blk_drew ?_ | refine blk_alloc ?_ _)); exact BK298.out)) : gb298 ≠ gb307)); have n6_ := Aside0.mk ((by rw [hg]; exact Nat.ne_of_gt (blk_lt (g := gb298) (o := .cells #[.int .i64 t290, .int .i64 t291, .int .i64 t292, .int .i64 t293, .int .i64 t294, .int .i64 t295, .int .i64 t296] 33 (0, 0)) (by (with_reducible repeat (first | refine blk_drewN ?_ _ | refine blk_drew ?_ | refine blk_alloc ?_ _)); exact BK298.out)) : gb307 ≠ gb298)); clear BK298; clear HB; have BK298 := n0_; have HB := n1_; have BK307 := n2_; have GW307 := n3_; have GE307 := n4_; have NB298_307 := n5_; have NB307_298 := n6_; clear n0_ n1_ n2_ n3_ n4_ n5_ n6_; clear hb hbox hg; have hnb16 := NB307_298.out; have hnc16 := NB298_307.out; have hcz17_0 : w15.cell? ⟨gb307, 0, none⟩ = some (.int .i64 0) := (blk_cell BK307.out 0).trans rfl; have hcz17_1 : w15.cell? ⟨gb307, 1, none⟩ = some (.int .i64 0) := (blk_cell BK307.out 1).trans rfl; have hcz17_2 : w15.cell? ⟨gb307, 2, none⟩ = some (.int .i64 0) := (blk_cell BK307.out 2).trans rfl; have hcz17_3 : w15.cell? ⟨gb307, 3, none⟩ = some (.int .i64 0) := (blk_cell BK307.out 3).trans rfl; have hcz17_4 : w15.cell? ⟨gb307, 4, none⟩ = some (.int .i64 0) := (blk_cell BK307.out 4).trans rfl; have hcz17_5 : w15.cell? ⟨gb307, 5, none⟩ = some (.int .i64 0) := (blk_cell BK307.out 5).trans rfl; have hcz17_6 : w15.cell? ⟨gb307, 6, none⟩ = some (.int .i64 0) := (blk_cell BK307.out 6).trans rfl; have hfz17_0 := blk_frozen BK307.out 0; have hfz17_1 := blk_frozen BK307.out 1; have hfz17_2 := blk_frozen BK307.out 2; have hfz17_3 := blk_frozen BK307.out 3; have hfz17_4 := blk_frozen BK307.out 4; have hfz17_5 := blk_frozen BK307.out 5; have hfz17_6 := blk_frozen BK307.out 6))
          (try simp only [Act.put, List.setIfInBounds_toArray, List.set_cons_zero, List.set_cons_succ])
          go_cut [34] (fun v34 wc => ∃ (kq : Nat) (x34_9 : Bool), v34 = .bool x34_9 ∧ Aside0 (bulletinlaw22_DateGoes.j1 kq a0 x34_9 t290 t291 t292 t293 t294 t295 t296 t299 t300 t301 t302 t303 t304 t305 = some r) ∧ Aside0 (kq ≤ kj3) ∧ Aside0 (wc.heap[gb298]? = some (.cells #[.int .i64 t290, .int .i64 t291, .int .i64 t292, .int .i64 t293, .int .i64 t294, .int .i64 t295, .int .i64 t296] 33 (0, 0))) ∧ Aside0 (wc.heap[gb307]? = some (.cells #[.int .i64 t299, .int .i64 t300, .int .i64 t301, .int .i64 t302, .int .i64 t303, .int .i64 t304, .int .i64 t305] 33 (0, 0))) ∧ Aside0 (Below w.heap.size w wc))
          case first =>
            have H := HC10.out
            clear HC10
            by_cases c18 : t297 = true
            · subst c18
              have H1 : (bulletinlaw22_DateGoes.j1 kj3 a0 (!t306) t290 t291 t292 t293 t294 t295 t296 t299 t300 t301 t302 t303 t304 t305) = some r := by rw [if_pos rfl] at H; exact H
              clear H
              have H := H1
              clear H1
              have H' := Aside0.mk H
              clear H
              go_wp2
              go_meet
              case rel => exact ⟨_, (!t306), (by first | rfl | (simp; done) | (simp [*]; done)), H', ⟨by have := HJ3.out; first | omega | exact Nat.le_refl _⟩, ⟨by (with_reducible repeat (first | refine blk_drewN ?_ _ | refine blk_drew ?_ | refine blk_alloc ?_ _)); refine blk_far ?_ NB298_307.out _; (with_reducible repeat (first | refine blk_drewN ?_ _ | refine blk_drew ?_ | refine blk_alloc ?_ _)); refine blk_far ?_ NB298_307.out _; (with_reducible repeat (first | refine blk_drewN ?_ _ | refine blk_drew ?_ | refine blk_alloc ?_ _)); refine blk_far ?_ NB298_307.out _; (with_reducible repeat (first | refine blk_drewN ?_ _ | refine blk_drew ?_ | refine blk_alloc ?_ _)); refine blk_far ?_ NB298_307.out _; (with_reducible repeat (first | refine blk_drewN ?_ _ | refine blk_drew ?_ | refine blk_alloc ?_ _)); refine blk_far ?_ NB298_307.out _; (with_reducible repeat (first | refine blk_drewN ?_ _ | refine blk_drew ?_ | refine blk_alloc ?_ _)); refine blk_far ?_ NB298_307.out _; (with_reducible repeat (first | refine blk_drewN ?_ _ | refine blk_drew ?_ | refine blk_alloc ?_ _)); refine blk_far ?_ NB298_307.out _; (with_reducible repeat (first | refine blk_drewN ?_ _ | refine blk_drew ?_ | refine blk_alloc ?_ _)); exact BK298.out⟩, ⟨by (with_reducible repeat (first | refine blk_drewN ?_ _ | refine blk_drew ?_ | refine blk_alloc ?_ _)); refine blk_put (cs := #[.int .i64 t299, .int .i64 t300, .int .i64 t301, .int .i64 t302, .int .i64 t303, .int .i64 t304, .int .i64 0]) ?_ 6 _ rfl; (with_reducible repeat (first | refine blk_drewN ?_ _ | refine blk_drew ?_ | refine blk_alloc ?_ _)); refine blk_put (cs := #[.int .i64 t299, .int .i64 t300, .int .i64 t301, .int .i64 t302, .int .i64 t303, .int .i64 0, .int .i64 0]) ?_ 5 _ rfl; (with_reducible repeat (first | refine blk_drewN ?_ _ | refine blk_drew ?_ | refine blk_alloc ?_ _)); refine blk_put (cs := #[.int .i64 t299, .int .i64 t300, .int .i64 t301, .int .i64 t302, .int .i64 0, .int .i64 0, .int .i64 0]) ?_ 4 _ rfl; (with_reducible repeat (first | refine blk_drewN ?_ _ | refine blk_drew ?_ | refine blk_alloc ?_ _)); refine blk_put (cs := #[.int .i64 t299, .int .i64 t300, .int .i64 t301, .int .i64 0, .int .i64 0, .int .i64 0, .int .i64 0]) ?_ 3 _ rfl; (with_reducible repeat (first | refine blk_drewN ?_ _ | refine blk_drew ?_ | refine blk_alloc ?_ _)); refine blk_put (cs := #[.int .i64 t299, .int .i64 t300, .int .i64 0, .int .i64 0, .int .i64 0, .int .i64 0, .int .i64 0]) ?_ 2 _ rfl; (with_reducible repeat (first | refine blk_drewN ?_ _ | refine blk_drew ?_ | refine blk_alloc ?_ _)); refine blk_put (cs := #[.int .i64 t299, .int .i64 0, .int .i64 0, .int .i64 0, .int .i64 0, .int .i64 0, .int .i64 0]) ?_ 1 _ rfl; (with_reducible repeat (first | refine blk_drewN ?_ _ | refine blk_drew ?_ | refine blk_alloc ?_ _)); refine blk_put (cs := #[.int .i64 0, .int .i64 0, .int .i64 0, .int .i64 0, .int .i64 0, .int .i64 0, .int .i64 0]) ?_ 0 _ rfl; (with_reducible repeat (first | refine blk_drewN ?_ _ | refine blk_drew ?_ | refine blk_alloc ?_ _)); exact BK307.out⟩, ⟨by repeat (first | (with_reducible first | exact HB.out | apply below_alloc | apply pw_below_drewN | apply below_drew1 | refine below_set ?_ GE298.out | refine below_set ?_ GE307.out) | exact HB.out)⟩⟩
            · replace c18 := Bool.eq_false_iff.mpr c18
              subst c18
              have H1 : (bulletinlaw22_DateGoes.j1 kj3 a0 true t290 t291 t292 t293 t294 t295 t296 t299 t300 t301 t302 t303 t304 t305) = some r := by rw [if_neg (show ¬ (false = true) by decide)] at H; exact H
              clear H
              have H := H1
              clear H1
              have H' := Aside0.mk H
              clear H
              go_wp2
              go_meet
              case rel => exact ⟨_, (true), (by first | rfl | (simp; done) | (simp [*]; done)), H', ⟨by have := HJ3.out; first | omega | exact Nat.le_refl _⟩, ⟨by (with_reducible repeat (first | refine blk_drewN ?_ _ | refine blk_drew ?_ | refine blk_alloc ?_ _)); refine blk_far ?_ NB298_307.out _; (with_reducible repeat (first | refine blk_drewN ?_ _ | refine blk_drew ?_ | refine blk_alloc ?_ _)); refine blk_far ?_ NB298_307.out _; (with_reducible repeat (first | refine blk_drewN ?_ _ | refine blk_drew ?_ | refine blk_alloc ?_ _)); refine blk_far ?_ NB298_307.out _; (with_reducible repeat (first | refine blk_drewN ?_ _ | refine blk_drew ?_ | refine blk_alloc ?_ _)); refine blk_far ?_ NB298_307.out _; (with_reducible repeat (first | refine blk_drewN ?_ _ | refine blk_drew ?_ | refine blk_alloc ?_ _)); refine blk_far ?_ NB298_307.out _; (with_reducible repeat (first | refine blk_drewN ?_ _ | refine blk_drew ?_ | refine blk_alloc ?_ _)); refine blk_far ?_ NB298_307.out _; (with_reducible repeat (first | refine blk_drewN ?_ _ | refine blk_drew ?_ | refine blk_alloc ?_ _)); refine blk_far ?_ NB298_307.out _; (with_reducible repeat (first | refine blk_drewN ?_ _ | refine blk_drew ?_ | refine blk_alloc ?_ _)); exact BK298.out⟩, ⟨by (with_reducible repeat (first | refine blk_drewN ?_ _ | refine blk_drew ?_ | refine blk_alloc ?_ _)); refine blk_put (cs := #[.int .i64 t299, .int .i64 t300, .int .i64 t301, .int .i64 t302, .int .i64 t303, .int .i64 t304, .int .i64 0]) ?_ 6 _ rfl; (with_reducible repeat (first | refine blk_drewN ?_ _ | refine blk_drew ?_ | refine blk_alloc ?_ _)); refine blk_put (cs := #[.int .i64 t299, .int .i64 t300, .int .i64 t301, .int .i64 t302, .int .i64 t303, .int .i64 0, .int .i64 0]) ?_ 5 _ rfl; (with_reducible repeat (first | refine blk_drewN ?_ _ | refine blk_drew ?_ | refine blk_alloc ?_ _)); refine blk_put (cs := #[.int .i64 t299, .int .i64 t300, .int .i64 t301, .int .i64 t302, .int .i64 0, .int .i64 0, .int .i64 0]) ?_ 4 _ rfl; (with_reducible repeat (first | refine blk_drewN ?_ _ | refine blk_drew ?_ | refine blk_alloc ?_ _)); refine blk_put (cs := #[.int .i64 t299, .int .i64 t300, .int .i64 t301, .int .i64 0, .int .i64 0, .int .i64 0, .int .i64 0]) ?_ 3 _ rfl; (with_reducible repeat (first | refine blk_drewN ?_ _ | refine blk_drew ?_ | refine blk_alloc ?_ _)); refine blk_put (cs := #[.int .i64 t299, .int .i64 t300, .int .i64 0, .int .i64 0, .int .i64 0, .int .i64 0, .int .i64 0]) ?_ 2 _ rfl; (with_reducible repeat (first | refine blk_drewN ?_ _ | refine blk_drew ?_ | refine blk_alloc ?_ _)); refine blk_put (cs := #[.int .i64 t299, .int .i64 0, .int .i64 0, .int .i64 0, .int .i64 0, .int .i64 0, .int .i64 0]) ?_ 1 _ rfl; (with_reducible repeat (first | refine blk_drewN ?_ _ | refine blk_drew ?_ | refine blk_alloc ?_ _)); refine blk_put (cs := #[.int .i64 0, .int .i64 0, .int .i64 0, .int .i64 0, .int .i64 0, .int .i64 0, .int .i64 0]) ?_ 0 _ rfl; (with_reducible repeat (first | refine blk_drewN ?_ _ | refine blk_drew ?_ | refine blk_alloc ?_ _)); exact BK307.out⟩, ⟨by repeat (first | (with_reducible first | exact HB.out | apply below_alloc | apply pw_below_drewN | apply below_drew1 | refine below_set ?_ GE298.out | refine below_set ?_ GE307.out) | exact HB.out)⟩⟩
          case rest =>
            clear HC10
            try clear c1
            try clear p2
            try clear c3
            try clear c6
            try clear c6b0
            try clear p6
            try clear c7
            try clear c12
            try clear c15
            try clear c16
            try clear c18
            try clear hcz13_0
            try clear hcz13_1
            try clear hcz13_2
            try clear hcz13_3
            try clear hcz13_4
            try clear hcz13_5
            try clear hcz13_6
            try clear hcz17_0
            try clear hcz17_1
            try clear hcz17_2
            try clear hcz17_3
            try clear hcz17_4
            try clear hcz17_5
            try clear hcz17_6
            try clear hfz13_0
            try clear hfz13_1
            try clear hfz13_2
            try clear hfz13_3
            try clear hfz13_4
            try clear hfz13_5
            try clear hfz13_6
            try clear hfz17_0
            try clear hfz17_1
            try clear hfz17_2
            try clear hfz17_3
            try clear hfz17_4
            try clear hfz17_5
            try clear hfz17_6
            try clear p2
            obtain ⟨kq, x34_9, rfl, HA, HJ9, BK298, BK307, HB⟩ := hcut
            cases kq with
            | zero => exact absurd HA.out (by simp [bulletinlaw22_DateGoes.j1])
            | succ kj9 =>
              have H := HA.out
              clear HA
              simp only [bulletinlaw22_DateGoes.j1] at H
              by_cases c19 : x34_9 = true
              · subst c19
                have H1 : (none) = some r := by rw [if_pos rfl] at H; exact H
                clear H
                have H := H1
                clear H1
                exact absurd H (by simp)
              · replace c19 := Bool.eq_false_iff.mpr c19
                subst c19
                have H1 : (if t290 = t299 then (bulletinlaw22_DateGoes.j2 kj9 a0 (wrap64 ((wrap64 ((wrap64 (t293 * 3600)) + (wrap64 (t294 * 60)))) + t295)) (wrap64 ((wrap64 ((wrap64 (t302 * 3600)) + (wrap64 (t303 * 60)))) + t304)) (t291 == t300) t290 t291 t292 t293 t294 t295 t296 t299 t300 t301 t302 t303 t304 t305) else (bulletinlaw22_DateGoes.j2 kj9 a0 (wrap64 ((wrap64 ((wrap64 (t293 * 3600)) + (wrap64 (t294 * 60)))) + t295)) (wrap64 ((wrap64 ((wrap64 (t302 * 3600)) + (wrap64 (t303 * 60)))) + t304)) false t290 t291 t292 t293 t294 t295 t296 t299 t300 t301 t302 t303 t304 t305)) = some r := by rw [if_neg (show ¬ (false = true) by decide)] at H; exact H
                clear H
                have H := H1
                clear H1
                have HC20 := Aside0.mk H
                clear H
                have hnb21 := NB298_307.out
                have hnc21 := NB307_298.out
                have hcz22_0 : wc.cell? ⟨gb298, 0, none⟩ = some (.int .i64 t290) := (blk_cell BK298.out 0).trans rfl
                have hcz22_1 : wc.cell? ⟨gb298, 1, none⟩ = some (.int .i64 t291) := (blk_cell BK298.out 1).trans rfl
                have hcz22_2 : wc.cell? ⟨gb298, 2, none⟩ = some (.int .i64 t292) := (blk_cell BK298.out 2).trans rfl
                have hcz22_3 : wc.cell? ⟨gb298, 3, none⟩ = some (.int .i64 t293) := (blk_cell BK298.out 3).trans rfl
                have hcz22_4 : wc.cell? ⟨gb298, 4, none⟩ = some (.int .i64 t294) := (blk_cell BK298.out 4).trans rfl
                have hcz22_5 : wc.cell? ⟨gb298, 5, none⟩ = some (.int .i64 t295) := (blk_cell BK298.out 5).trans rfl
                have hcz22_6 : wc.cell? ⟨gb298, 6, none⟩ = some (.int .i64 t296) := (blk_cell BK298.out 6).trans rfl
                have hfz22_0 := blk_frozen BK298.out 0
                have hfz22_1 := blk_frozen BK298.out 1
                have hfz22_2 := blk_frozen BK298.out 2
                have hfz22_3 := blk_frozen BK298.out 3
                have hfz22_4 := blk_frozen BK298.out 4
                have hfz22_5 := blk_frozen BK298.out 5
                have hfz22_6 := blk_frozen BK298.out 6
                have hcz23_0 : wc.cell? ⟨gb307, 0, none⟩ = some (.int .i64 t299) := (blk_cell BK307.out 0).trans rfl
                have hcz23_1 : wc.cell? ⟨gb307, 1, none⟩ = some (.int .i64 t300) := (blk_cell BK307.out 1).trans rfl
                have hcz23_2 : wc.cell? ⟨gb307, 2, none⟩ = some (.int .i64 t301) := (blk_cell BK307.out 2).trans rfl
                have hcz23_3 : wc.cell? ⟨gb307, 3, none⟩ = some (.int .i64 t302) := (blk_cell BK307.out 3).trans rfl
                have hcz23_4 : wc.cell? ⟨gb307, 4, none⟩ = some (.int .i64 t303) := (blk_cell BK307.out 4).trans rfl
                have hcz23_5 : wc.cell? ⟨gb307, 5, none⟩ = some (.int .i64 t304) := (blk_cell BK307.out 5).trans rfl
                have hcz23_6 : wc.cell? ⟨gb307, 6, none⟩ = some (.int .i64 t305) := (blk_cell BK307.out 6).trans rfl
                have hfz23_0 := blk_frozen BK307.out 0
                have hfz23_1 := blk_frozen BK307.out 1
                have hfz23_2 := blk_frozen BK307.out 2
                have hfz23_3 := blk_frozen BK307.out 3
                have hfz23_4 := blk_frozen BK307.out 4
                have hfz23_5 := blk_frozen BK307.out 5
                have hfz23_6 := blk_frozen BK307.out 6
                go_upto_region 11 with (fail)
                go_cut [9] (fun v9 wc => ∃ (kq : Nat) (x9_19 : Bool), v9 = .bool x9_19 ∧ Aside0 (bulletinlaw22_DateGoes.j2 kq a0 (wrap64 ((wrap64 ((wrap64 (t293 * 3600)) + (wrap64 (t294 * 60)))) + t295)) (wrap64 ((wrap64 ((wrap64 (t302 * 3600)) + (wrap64 (t303 * 60)))) + t304)) x9_19 t290 t291 t292 t293 t294 t295 t296 t299 t300 t301 t302 t303 t304 t305 = some r) ∧ Aside0 (kq ≤ kj9) ∧ Aside0 (wc.heap[gb298]? = some (.cells #[.int .i64 t290, .int .i64 t291, .int .i64 t292, .int .i64 t293, .int .i64 t294, .int .i64 t295, .int .i64 t296] 33 (0, 0))) ∧ Aside0 (wc.heap[gb307]? = some (.cells #[.int .i64 t299, .int .i64 t300, .int .i64 t301, .int .i64 t302, .int .i64 t303, .int .i64 t304, .int .i64 t305] 33 (0, 0))) ∧ Aside0 (Below w.heap.size w wc))
                case first =>
                  have H := HC20.out
                  clear HC20
                  by_cases c24 : t290 = t299
                  · rw [if_pos c24] at H
                    have c24b0 : (t290 == t299) = true := beq_iff_eq.mpr c24
                    have c24b1 : (t290 != t299) = false := bne_eq_false_iff_eq.mpr c24
                    clear c24
                    (first | rw [c24b0] | (simp only [i64_w, i32_w]; rw [c24b0]) | skip)
                    have H' := Aside0.mk H
                    clear H
                    have hnb25 := NB298_307.out
                    have hnc25 := NB307_298.out
                    have hcz26_0 : wc.cell? ⟨gb298, 0, none⟩ = some (.int .i64 t290) := (blk_cell BK298.out 0).trans rfl
                    have hcz26_1 : wc.cell? ⟨gb298, 1, none⟩ = some (.int .i64 t291) := (blk_cell BK298.out 1).trans rfl
                    have hcz26_2 : wc.cell? ⟨gb298, 2, none⟩ = some (.int .i64 t292) := (blk_cell BK298.out 2).trans rfl
                    have hcz26_3 : wc.cell? ⟨gb298, 3, none⟩ = some (.int .i64 t293) := (blk_cell BK298.out 3).trans rfl
                    have hcz26_4 : wc.cell? ⟨gb298, 4, none⟩ = some (.int .i64 t294) := (blk_cell BK298.out 4).trans rfl
                    have hcz26_5 : wc.cell? ⟨gb298, 5, none⟩ = some (.int .i64 t295) := (blk_cell BK298.out 5).trans rfl
                    have hcz26_6 : wc.cell? ⟨gb298, 6, none⟩ = some (.int .i64 t296) := (blk_cell BK298.out 6).trans rfl
                    have hfz26_0 := blk_frozen BK298.out 0
                    have hfz26_1 := blk_frozen BK298.out 1
                    have hfz26_2 := blk_frozen BK298.out 2
                    have hfz26_3 := blk_frozen BK298.out 3
                    have hfz26_4 := blk_frozen BK298.out 4
                    have hfz26_5 := blk_frozen BK298.out 5
                    have hfz26_6 := blk_frozen BK298.out 6
                    have hcz27_0 : wc.cell? ⟨gb307, 0, none⟩ = some (.int .i64 t299) := (blk_cell BK307.out 0).trans rfl
                    have hcz27_1 : wc.cell? ⟨gb307, 1, none⟩ = some (.int .i64 t300) := (blk_cell BK307.out 1).trans rfl
                    have hcz27_2 : wc.cell? ⟨gb307, 2, none⟩ = some (.int .i64 t301) := (blk_cell BK307.out 2).trans rfl
                    have hcz27_3 : wc.cell? ⟨gb307, 3, none⟩ = some (.int .i64 t302) := (blk_cell BK307.out 3).trans rfl
                    have hcz27_4 : wc.cell? ⟨gb307, 4, none⟩ = some (.int .i64 t303) := (blk_cell BK307.out 4).trans rfl
                    have hcz27_5 : wc.cell? ⟨gb307, 5, none⟩ = some (.int .i64 t304) := (blk_cell BK307.out 5).trans rfl
                    have hcz27_6 : wc.cell? ⟨gb307, 6, none⟩ = some (.int .i64 t305) := (blk_cell BK307.out 6).trans rfl
                    have hfz27_0 := blk_frozen BK307.out 0
                    have hfz27_1 := blk_frozen BK307.out 1
                    have hfz27_2 := blk_frozen BK307.out 2
                    have hfz27_3 := blk_frozen BK307.out 3
                    have hfz27_4 := blk_frozen BK307.out 4
                    have hfz27_5 := blk_frozen BK307.out 5
                    have hfz27_6 := blk_frozen BK307.out 6
                    go_wp2
                    go_meet
                    case rel => exact ⟨_, ((t291 == t300)), (by first | rfl | (simp; done) | (simp [*]; done)), H', ⟨by have := HJ3.out; have := HJ9.out; first | omega | exact Nat.le_refl _⟩, ⟨by (with_reducible repeat (first | refine blk_drewN ?_ _ | refine blk_drew ?_ | refine blk_alloc ?_ _)); exact BK298.out⟩, ⟨by (with_reducible repeat (first | refine blk_drewN ?_ _ | refine blk_drew ?_ | refine blk_alloc ?_ _)); exact BK307.out⟩, ⟨by repeat (first | (with_reducible first | exact HB.out | apply below_alloc | apply pw_below_drewN | apply below_drew1 | refine below_set ?_ GE298.out | refine below_set ?_ GE307.out) | exact HB.out)⟩⟩
                  · rw [if_neg c24] at H
                    have c24b0 : (t290 == t299) = false := beq_eq_false_iff_ne.mpr c24
                    have c24b1 : (t290 != t299) = true := bne_iff_ne.mpr c24
                    (first | rw [c24b0] | (simp only [i64_w, i32_w]; rw [c24b0]) | skip)
                    have H' := Aside0.mk H
                    clear H
                    have hnb28 := NB298_307.out
                    have hnc28 := NB307_298.out
                    have hcz29_0 : wc.cell? ⟨gb298, 0, none⟩ = some (.int .i64 t290) := (blk_cell BK298.out 0).trans rfl
                    have hcz29_1 : wc.cell? ⟨gb298, 1, none⟩ = some (.int .i64 t291) := (blk_cell BK298.out 1).trans rfl
                    have hcz29_2 : wc.cell? ⟨gb298, 2, none⟩ = some (.int .i64 t292) := (blk_cell BK298.out 2).trans rfl
                    have hcz29_3 : wc.cell? ⟨gb298, 3, none⟩ = some (.int .i64 t293) := (blk_cell BK298.out 3).trans rfl
                    have hcz29_4 : wc.cell? ⟨gb298, 4, none⟩ = some (.int .i64 t294) := (blk_cell BK298.out 4).trans rfl
                    have hcz29_5 : wc.cell? ⟨gb298, 5, none⟩ = some (.int .i64 t295) := (blk_cell BK298.out 5).trans rfl
                    have hcz29_6 : wc.cell? ⟨gb298, 6, none⟩ = some (.int .i64 t296) := (blk_cell BK298.out 6).trans rfl
                    have hfz29_0 := blk_frozen BK298.out 0
                    have hfz29_1 := blk_frozen BK298.out 1
                    have hfz29_2 := blk_frozen BK298.out 2
                    have hfz29_3 := blk_frozen BK298.out 3
                    have hfz29_4 := blk_frozen BK298.out 4
                    have hfz29_5 := blk_frozen BK298.out 5
                    have hfz29_6 := blk_frozen BK298.out 6
                    have hcz30_0 : wc.cell? ⟨gb307, 0, none⟩ = some (.int .i64 t299) := (blk_cell BK307.out 0).trans rfl
                    have hcz30_1 : wc.cell? ⟨gb307, 1, none⟩ = some (.int .i64 t300) := (blk_cell BK307.out 1).trans rfl
                    have hcz30_2 : wc.cell? ⟨gb307, 2, none⟩ = some (.int .i64 t301) := (blk_cell BK307.out 2).trans rfl
                    have hcz30_3 : wc.cell? ⟨gb307, 3, none⟩ = some (.int .i64 t302) := (blk_cell BK307.out 3).trans rfl
                    have hcz30_4 : wc.cell? ⟨gb307, 4, none⟩ = some (.int .i64 t303) := (blk_cell BK307.out 4).trans rfl
                    have hcz30_5 : wc.cell? ⟨gb307, 5, none⟩ = some (.int .i64 t304) := (blk_cell BK307.out 5).trans rfl
                    have hcz30_6 : wc.cell? ⟨gb307, 6, none⟩ = some (.int .i64 t305) := (blk_cell BK307.out 6).trans rfl
                    have hfz30_0 := blk_frozen BK307.out 0
                    have hfz30_1 := blk_frozen BK307.out 1
                    have hfz30_2 := blk_frozen BK307.out 2
                    have hfz30_3 := blk_frozen BK307.out 3
                    have hfz30_4 := blk_frozen BK307.out 4
                    have hfz30_5 := blk_frozen BK307.out 5
                    have hfz30_6 := blk_frozen BK307.out 6
                    go_wp2
                    go_meet
                    case rel => exact ⟨_, (false), (by first | rfl | (simp; done) | (simp [*]; done)), H', ⟨by have := HJ3.out; have := HJ9.out; first | omega | exact Nat.le_refl _⟩, ⟨by (with_reducible repeat (first | refine blk_drewN ?_ _ | refine blk_drew ?_ | refine blk_alloc ?_ _)); exact BK298.out⟩, ⟨by (with_reducible repeat (first | refine blk_drewN ?_ _ | refine blk_drew ?_ | refine blk_alloc ?_ _)); exact BK307.out⟩, ⟨by repeat (first | (with_reducible first | exact HB.out | apply below_alloc | apply pw_below_drewN | apply below_drew1 | refine below_set ?_ GE298.out | refine below_set ?_ GE307.out) | exact HB.out)⟩⟩
                case rest =>
                  clear HC20
                  try clear c1
                  try clear c2
                  try clear p2
                  try clear c3
                  try clear c6
                  try clear c6b0
                  try clear p6
                  try clear c7
                  try clear c12
                  try clear c15
                  try clear c16
                  try clear c18
                  try clear c19
                  try clear c21
                  try clear c24
                  try clear c24b0
                  try clear c24b1
                  try clear c25
                  try clear c28
                  try clear hcz13_0
                  try clear hcz13_1
                  try clear hcz13_2
                  try clear hcz13_3
                  try clear hcz13_4
                  try clear hcz13_5
                  try clear hcz13_6
                  try clear hcz17_0
                  try clear hcz17_1
                  try clear hcz17_2
                  try clear hcz17_3
                  try clear hcz17_4
                  try clear hcz17_5
                  try clear hcz17_6
                  try clear hcz22_0
                  try clear hcz22_1
                  try clear hcz22_2
                  try clear hcz22_3
                  try clear hcz22_4
                  try clear hcz22_5
                  try clear hcz22_6
                  try clear hcz23_0
                  try clear hcz23_1
                  try clear hcz23_2
                  try clear hcz23_3
                  try clear hcz23_4
                  try clear hcz23_5
                  try clear hcz23_6
                  try clear hcz26_0
                  try clear hcz26_1
                  try clear hcz26_2
                  try clear hcz26_3
                  try clear hcz26_4
                  try clear hcz26_5
                  try clear hcz26_6
                  try clear hcz27_0
                  try clear hcz27_1
                  try clear hcz27_2
                  try clear hcz27_3
                  try clear hcz27_4
                  try clear hcz27_5
                  try clear hcz27_6
                  try clear hcz29_0
                  try clear hcz29_1
                  try clear hcz29_2
                  try clear hcz29_3
                  try clear hcz29_4
                  try clear hcz29_5
                  try clear hcz29_6
                  try clear hcz30_0
                  try clear hcz30_1
                  try clear hcz30_2
                  try clear hcz30_3
                  try clear hcz30_4
                  try clear hcz30_5
                  try clear hcz30_6
                  try clear hfz13_0
                  try clear hfz13_1
                  try clear hfz13_2
                  try clear hfz13_3
                  try clear hfz13_4
                  try clear hfz13_5
                  try clear hfz13_6
                  try clear hfz17_0
                  try clear hfz17_1
                  try clear hfz17_2
                  try clear hfz17_3
                  try clear hfz17_4
                  try clear hfz17_5
                  try clear hfz17_6
                  try clear hfz22_0
                  try clear hfz22_1
                  try clear hfz22_2
                  try clear hfz22_3
                  try clear hfz22_4
                  try clear hfz22_5
                  try clear hfz22_6
                  try clear hfz23_0
                  try clear hfz23_1
                  try clear hfz23_2
                  try clear hfz23_3
                  try clear hfz23_4
                  try clear hfz23_5
                  try clear hfz23_6
                  try clear hfz26_0
                  try clear hfz26_1
                  try clear hfz26_2
                  try clear hfz26_3
                  try clear hfz26_4
                  try clear hfz26_5
                  try clear hfz26_6
                  try clear hfz27_0
                  try clear hfz27_1
                  try clear hfz27_2
                  try clear hfz27_3
                  try clear hfz27_4
                  try clear hfz27_5
                  try clear hfz27_6
                  try clear hfz29_0
                  try clear hfz29_1
                  try clear hfz29_2
                  try clear hfz29_3
                  try clear hfz29_4
                  try clear hfz29_5
                  try clear hfz29_6
                  try clear hfz30_0
                  try clear hfz30_1
                  try clear hfz30_2
                  try clear hfz30_3
                  try clear hfz30_4
                  try clear hfz30_5
                  try clear hfz30_6
                  try clear p2
                  try clear p6
                  obtain ⟨kq, x9_19, rfl, HA, HJ19, BK298, BK307, HB⟩ := hcut
                  cases kq with
                  | zero => exact absurd HA.out (by simp [bulletinlaw22_DateGoes.j2])
                  | succ kj19 =>
                    have H := HA.out
                    clear HA
                    simp only [bulletinlaw22_DateGoes.j2] at H
                    by_cases c31 : (wrap64 ((wrap64 ((wrap64 (t293 * 3600)) + (wrap64 (t294 * 60)))) + t295)) < 86399
                    · rw [if_pos c31] at H
                      have c31b0 : decide ((wrap64 ((wrap64 ((wrap64 (t293 * 3600)) + (wrap64 (t294 * 60)))) + t295)) < 86399) = true := decide_eq_true c31
                      clear c31
                      by_cases c32 : (wrap64 ((wrap64 ((wrap64 (t302 * 3600)) + (wrap64 (t303 * 60)))) + t304)) = (wrap64 ((wrap64 ((wrap64 ((wrap64 (t293 * 3600)) + (wrap64 (t294 * 60)))) + t295)) + 1))
                      · rw [if_pos c32] at H
                        have c32b0 : ((wrap64 ((wrap64 ((wrap64 (t302 * 3600)) + (wrap64 (t303 * 60)))) + t304)) == (wrap64 ((wrap64 ((wrap64 ((wrap64 (t293 * 3600)) + (wrap64 (t294 * 60)))) + t295)) + 1))) = true := beq_iff_eq.mpr c32
                        have c32b1 : ((wrap64 ((wrap64 ((wrap64 (t302 * 3600)) + (wrap64 (t303 * 60)))) + t304)) != (wrap64 ((wrap64 ((wrap64 ((wrap64 (t293 * 3600)) + (wrap64 (t294 * 60)))) + t295)) + 1))) = false := bne_eq_false_iff_eq.mpr c32
                        clear c32
                        by_cases c33 : x9_19 = true
                        · subst c33
                          have H1 : (if t292 = t301 then (if t296 = t305 then ((date_Day.f (wrap64 (a0 + 1))).bind fun t308 => ((date_Day.f a0).bind fun t309 => (some (t308 == t309)))) else (none)) else (none)) = some r := by rw [if_pos rfl] at H; exact H
                          clear H
                          have H := H1
                          clear H1
                          by_cases c34 : t292 = t301
                          · rw [if_pos c34] at H
                            have c34b0 : (t292 == t301) = true := beq_iff_eq.mpr c34
                            have c34b1 : (t292 != t301) = false := bne_eq_false_iff_eq.mpr c34
                            clear c34
                            by_cases c35 : t296 = t305
                            · rw [if_pos c35] at H
                              have c35b0 : (t296 == t305) = true := beq_iff_eq.mpr c35
                              have c35b1 : (t296 != t305) = false := bne_eq_false_iff_eq.mpr c35
                              clear c35
                              replace H := Option.bind_eq_some_iff.mp H
                              obtain ⟨t308, A360, H⟩ := H
                              replace H : ((date_Day.f a0).bind fun t309 => (some (t308 == t309))) = some r := H
                              have A36 := Aside0.mk A360
                              clear A360
                              replace H := Option.bind_eq_some_iff.mp H
                              obtain ⟨t309, A370, H⟩ := H
                              replace H : (some (t308 == t309)) = some r := H
                              have A37 := Aside0.mk A370
                              clear A370
                              obtain rfl := Option.some.inj H
                              have hnb38 := NB298_307.out
                              have hnc38 := NB307_298.out
                              have hcz39_0 : wc.cell? ⟨gb298, 0, none⟩ = some (.int .i64 t290) := (blk_cell BK298.out 0).trans rfl
                              have hcz39_1 : wc.cell? ⟨gb298, 1, none⟩ = some (.int .i64 t291) := (blk_cell BK298.out 1).trans rfl
                              have hcz39_2 : wc.cell? ⟨gb298, 2, none⟩ = some (.int .i64 t292) := (blk_cell BK298.out 2).trans rfl
                              have hcz39_3 : wc.cell? ⟨gb298, 3, none⟩ = some (.int .i64 t293) := (blk_cell BK298.out 3).trans rfl
                              have hcz39_4 : wc.cell? ⟨gb298, 4, none⟩ = some (.int .i64 t294) := (blk_cell BK298.out 4).trans rfl
                              have hcz39_5 : wc.cell? ⟨gb298, 5, none⟩ = some (.int .i64 t295) := (blk_cell BK298.out 5).trans rfl
                              have hcz39_6 : wc.cell? ⟨gb298, 6, none⟩ = some (.int .i64 t296) := (blk_cell BK298.out 6).trans rfl
                              have hfz39_0 := blk_frozen BK298.out 0
                              have hfz39_1 := blk_frozen BK298.out 1
                              have hfz39_2 := blk_frozen BK298.out 2
                              have hfz39_3 := blk_frozen BK298.out 3
                              have hfz39_4 := blk_frozen BK298.out 4
                              have hfz39_5 := blk_frozen BK298.out 5
                              have hfz39_6 := blk_frozen BK298.out 6
                              have hcz40_0 : wc.cell? ⟨gb307, 0, none⟩ = some (.int .i64 t299) := (blk_cell BK307.out 0).trans rfl
                              have hcz40_1 : wc.cell? ⟨gb307, 1, none⟩ = some (.int .i64 t300) := (blk_cell BK307.out 1).trans rfl
                              have hcz40_2 : wc.cell? ⟨gb307, 2, none⟩ = some (.int .i64 t301) := (blk_cell BK307.out 2).trans rfl
                              have hcz40_3 : wc.cell? ⟨gb307, 3, none⟩ = some (.int .i64 t302) := (blk_cell BK307.out 3).trans rfl
                              have hcz40_4 : wc.cell? ⟨gb307, 4, none⟩ = some (.int .i64 t303) := (blk_cell BK307.out 4).trans rfl
                              have hcz40_5 : wc.cell? ⟨gb307, 5, none⟩ = some (.int .i64 t304) := (blk_cell BK307.out 5).trans rfl
                              have hcz40_6 : wc.cell? ⟨gb307, 6, none⟩ = some (.int .i64 t305) := (blk_cell BK307.out 6).trans rfl
                              have hfz40_0 := blk_frozen BK307.out 0
                              have hfz40_1 := blk_frozen BK307.out 1
                              have hfz40_2 := blk_frozen BK307.out 2
                              have hfz40_3 := blk_frozen BK307.out 3
                              have hfz40_4 := blk_frozen BK307.out 4
                              have hfz40_5 := blk_frozen BK307.out 5
                              have hfz40_6 := blk_frozen BK307.out 6
                              go_wp2_with (first | (go_at_call 20; (with_reducible refine (date_Day.calls (wrap64 (a0 + 1)) t308 _ A36.out).mono ?_); rintro e w' ⟨rfl, ⟨nd, rfl⟩⟩) | (go_at_call 20; (with_reducible refine (date_Day.calls a0 t309 _ A37.out).mono ?_); rintro e w' ⟨rfl, ⟨nd, rfl⟩⟩))
                              go_ret
                              exact ⟨by first | rfl | (simp [errW_none, errW_some] <;> rfl) | (simp [*, errW_none, errW_some] <;> rfl), by repeat (first | (with_reducible first | exact HB.out | apply below_alloc | apply pw_below_drewN | apply below_drew1 | refine below_set ?_ GE298.out | refine below_set ?_ GE307.out) | exact HB.out)⟩
                            · rw [if_neg c35] at H
                              exact absurd H (by simp)
                          · rw [if_neg c34] at H
                            exact absurd H (by simp)
                        · replace c33 := Bool.eq_false_iff.mpr c33
                          subst c33
                          have H1 : (none) = some r := by rw [if_neg (show ¬ (false = true) by decide)] at H; exact H
                          clear H
                          have H := H1
                          clear H1
                          exact absurd H (by simp)
                      · rw [if_neg c32] at H
                        exact absurd H (by simp)
                    · rw [if_neg c31] at H
                      have c31b0 : decide ((wrap64 ((wrap64 ((wrap64 (t293 * 3600)) + (wrap64 (t294 * 60)))) + t295)) < 86399) = false := decide_eq_false c31
                      clear c31
                      have HC41 := Aside0.mk H
                      clear H
                      go_upto_region 14 with (fail)
                      go_cut [117] (fun v117 wc => ∃ (kq : Nat) (x117_40 : Bool), v117 = .bool x117_40 ∧ Aside0 (bulletinlaw22_DateGoes.j3 kq x9_19 x117_40 t290 t291 t292 t293 t294 t295 t296 t299 t300 t301 t302 t303 t304 t305 = some r) ∧ Aside0 (kq ≤ kj19) ∧ Aside0 (wc.heap[gb298]? = some (.cells #[.int .i64 t290, .int .i64 t291, .int .i64 t292, .int .i64 t293, .int .i64 t294, .int .i64 t295, .int .i64 t296] 33 (0, 0))) ∧ Aside0 (wc.heap[gb307]? = some (.cells #[.int .i64 t299, .int .i64 t300, .int .i64 t301, .int .i64 t302, .int .i64 t303, .int .i64 t304, .int .i64 t305] 33 (0, 0))) ∧ Aside0 (Below w.heap.size w wc))
                      case first =>
                        have H := HC41.out
                        clear HC41
                        by_cases c42 : (wrap64 ((wrap64 ((wrap64 (t302 * 3600)) + (wrap64 (t303 * 60)))) + t304)) = 0
                        · rw [if_pos c42] at H
                          have c42b0 : ((wrap64 ((wrap64 ((wrap64 (t302 * 3600)) + (wrap64 (t303 * 60)))) + t304)) == 0) = true := beq_iff_eq.mpr c42
                          have c42b1 : ((wrap64 ((wrap64 ((wrap64 (t302 * 3600)) + (wrap64 (t303 * 60)))) + t304)) != 0) = false := bne_eq_false_iff_eq.mpr c42
                          clear c42
                          (first | rw [c42b0] | (simp only [i64_w, i32_w]; rw [c42b0]) | skip)
                          by_cases c43 : t305 = (Int.tmod (wrap64 (t296 + 1)) 7)
                          · rw [if_pos c43] at H
                            have c43b0 : (t305 == (Int.tmod (wrap64 (t296 + 1)) 7)) = true := beq_iff_eq.mpr c43
                            have c43b1 : (t305 != (Int.tmod (wrap64 (t296 + 1)) 7)) = false := bne_eq_false_iff_eq.mpr c43
                            clear c43
                            replace H := Option.bind_eq_some_iff.mp H
                            obtain ⟨t310, A440, H⟩ := H
                            replace H : ((date_Day.f a0).bind fun t311 => (bulletinlaw22_DateGoes.j3 kj19 x9_19 (t310 != (wrap64 (t311 + 1))) t290 t291 t292 t293 t294 t295 t296 t299 t300 t301 t302 t303 t304 t305)) = some r := H
                            have A44 := Aside0.mk A440
                            clear A440
                            replace H := Option.bind_eq_some_iff.mp H
                            obtain ⟨t311, A450, H⟩ := H
                            replace H : (bulletinlaw22_DateGoes.j3 kj19 x9_19 (t310 != (wrap64 (t311 + 1))) t290 t291 t292 t293 t294 t295 t296 t299 t300 t301 t302 t303 t304 t305) = some r := H
                            have A45 := Aside0.mk A450
                            clear A450
                            have H' := Aside0.mk H
                            clear H
                            have hnb46 := NB307_298.out
                            have hnc46 := NB298_307.out
                            have hcz47_0 : wc.cell? ⟨gb307, 0, none⟩ = some (.int .i64 t299) := (blk_cell BK307.out 0).trans rfl
                            have hcz47_1 : wc.cell? ⟨gb307, 1, none⟩ = some (.int .i64 t300) := (blk_cell BK307.out 1).trans rfl
                            have hcz47_2 : wc.cell? ⟨gb307, 2, none⟩ = some (.int .i64 t301) := (blk_cell BK307.out 2).trans rfl
                            have hcz47_3 : wc.cell? ⟨gb307, 3, none⟩ = some (.int .i64 t302) := (blk_cell BK307.out 3).trans rfl
                            have hcz47_4 : wc.cell? ⟨gb307, 4, none⟩ = some (.int .i64 t303) := (blk_cell BK307.out 4).trans rfl
                            have hcz47_5 : wc.cell? ⟨gb307, 5, none⟩ = some (.int .i64 t304) := (blk_cell BK307.out 5).trans rfl
                            have hcz47_6 : wc.cell? ⟨gb307, 6, none⟩ = some (.int .i64 t305) := (blk_cell BK307.out 6).trans rfl
                            have hfz47_0 := blk_frozen BK307.out 0
                            have hfz47_1 := blk_frozen BK307.out 1
                            have hfz47_2 := blk_frozen BK307.out 2
                            have hfz47_3 := blk_frozen BK307.out 3
                            have hfz47_4 := blk_frozen BK307.out 4
                            have hfz47_5 := blk_frozen BK307.out 5
                            have hfz47_6 := blk_frozen BK307.out 6
                            have hcz48_0 : wc.cell? ⟨gb298, 0, none⟩ = some (.int .i64 t290) := (blk_cell BK298.out 0).trans rfl
                            have hcz48_1 : wc.cell? ⟨gb298, 1, none⟩ = some (.int .i64 t291) := (blk_cell BK298.out 1).trans rfl
                            have hcz48_2 : wc.cell? ⟨gb298, 2, none⟩ = some (.int .i64 t292) := (blk_cell BK298.out 2).trans rfl
                            have hcz48_3 : wc.cell? ⟨gb298, 3, none⟩ = some (.int .i64 t293) := (blk_cell BK298.out 3).trans rfl
                            have hcz48_4 : wc.cell? ⟨gb298, 4, none⟩ = some (.int .i64 t294) := (blk_cell BK298.out 4).trans rfl
                            have hcz48_5 : wc.cell? ⟨gb298, 5, none⟩ = some (.int .i64 t295) := (blk_cell BK298.out 5).trans rfl
                            have hcz48_6 : wc.cell? ⟨gb298, 6, none⟩ = some (.int .i64 t296) := (blk_cell BK298.out 6).trans rfl
                            have hfz48_0 := blk_frozen BK298.out 0
                            have hfz48_1 := blk_frozen BK298.out 1
                            have hfz48_2 := blk_frozen BK298.out 2
                            have hfz48_3 := blk_frozen BK298.out 3
                            have hfz48_4 := blk_frozen BK298.out 4
                            have hfz48_5 := blk_frozen BK298.out 5
                            have hfz48_6 := blk_frozen BK298.out 6
                            go_wp2_with (first | (go_at_call 20; (with_reducible refine (date_Day.calls (wrap64 (a0 + 1)) t310 _ A44.out).mono ?_); rintro e w' ⟨rfl, ⟨nd, rfl⟩⟩) | (go_at_call 20; (with_reducible refine (date_Day.calls a0 t311 _ A45.out).mono ?_); rintro e w' ⟨rfl, ⟨nd, rfl⟩⟩))
                            go_meet
                            case rel => exact ⟨_, ((t310 != (wrap64 (t311 + 1)))), (by first | rfl | (simp; done) | (simp [*]; done)), H', ⟨by have := HJ3.out; have := HJ9.out; have := HJ19.out; first | omega | exact Nat.le_refl _⟩, ⟨by (with_reducible repeat (first | refine blk_drewN ?_ _ | refine blk_drew ?_ | refine blk_alloc ?_ _)); exact BK298.out⟩, ⟨by (with_reducible repeat (first | refine blk_drewN ?_ _ | refine blk_drew ?_ | refine blk_alloc ?_ _)); exact BK307.out⟩, ⟨by repeat (first | (with_reducible first | exact HB.out | apply below_alloc | apply pw_below_drewN | apply below_drew1 | refine below_set ?_ GE298.out | refine below_set ?_ GE307.out) | exact HB.out)⟩⟩
                          · rw [if_neg c43] at H
                            have c43b0 : (t305 == (Int.tmod (wrap64 (t296 + 1)) 7)) = false := beq_eq_false_iff_ne.mpr c43
                            have c43b1 : (t305 != (Int.tmod (wrap64 (t296 + 1)) 7)) = true := bne_iff_ne.mpr c43
                            have H' := Aside0.mk H
                            clear H
                            have hnb49 := NB307_298.out
                            have hnc49 := NB298_307.out
                            have hcz50_0 : wc.cell? ⟨gb307, 0, none⟩ = some (.int .i64 t299) := (blk_cell BK307.out 0).trans rfl
                            have hcz50_1 : wc.cell? ⟨gb307, 1, none⟩ = some (.int .i64 t300) := (blk_cell BK307.out 1).trans rfl
                            have hcz50_2 : wc.cell? ⟨gb307, 2, none⟩ = some (.int .i64 t301) := (blk_cell BK307.out 2).trans rfl
                            have hcz50_3 : wc.cell? ⟨gb307, 3, none⟩ = some (.int .i64 t302) := (blk_cell BK307.out 3).trans rfl
                            have hcz50_4 : wc.cell? ⟨gb307, 4, none⟩ = some (.int .i64 t303) := (blk_cell BK307.out 4).trans rfl
                            have hcz50_5 : wc.cell? ⟨gb307, 5, none⟩ = some (.int .i64 t304) := (blk_cell BK307.out 5).trans rfl
                            have hcz50_6 : wc.cell? ⟨gb307, 6, none⟩ = some (.int .i64 t305) := (blk_cell BK307.out 6).trans rfl
                            have hfz50_0 := blk_frozen BK307.out 0
                            have hfz50_1 := blk_frozen BK307.out 1
                            have hfz50_2 := blk_frozen BK307.out 2
                            have hfz50_3 := blk_frozen BK307.out 3
                            have hfz50_4 := blk_frozen BK307.out 4
                            have hfz50_5 := blk_frozen BK307.out 5
                            have hfz50_6 := blk_frozen BK307.out 6
                            have hcz51_0 : wc.cell? ⟨gb298, 0, none⟩ = some (.int .i64 t290) := (blk_cell BK298.out 0).trans rfl
                            have hcz51_1 : wc.cell? ⟨gb298, 1, none⟩ = some (.int .i64 t291) := (blk_cell BK298.out 1).trans rfl
                            have hcz51_2 : wc.cell? ⟨gb298, 2, none⟩ = some (.int .i64 t292) := (blk_cell BK298.out 2).trans rfl
                            have hcz51_3 : wc.cell? ⟨gb298, 3, none⟩ = some (.int .i64 t293) := (blk_cell BK298.out 3).trans rfl
                            have hcz51_4 : wc.cell? ⟨gb298, 4, none⟩ = some (.int .i64 t294) := (blk_cell BK298.out 4).trans rfl
                            have hcz51_5 : wc.cell? ⟨gb298, 5, none⟩ = some (.int .i64 t295) := (blk_cell BK298.out 5).trans rfl
                            have hcz51_6 : wc.cell? ⟨gb298, 6, none⟩ = some (.int .i64 t296) := (blk_cell BK298.out 6).trans rfl
                            have hfz51_0 := blk_frozen BK298.out 0
                            have hfz51_1 := blk_frozen BK298.out 1
                            have hfz51_2 := blk_frozen BK298.out 2
                            have hfz51_3 := blk_frozen BK298.out 3
                            have hfz51_4 := blk_frozen BK298.out 4
                            have hfz51_5 := blk_frozen BK298.out 5
                            have hfz51_6 := blk_frozen BK298.out 6
                            go_wp2
                            go_meet
                            case rel => exact ⟨_, (true), (by first | rfl | (simp; done) | (simp [*]; done)), H', ⟨by have := HJ3.out; have := HJ9.out; have := HJ19.out; first | omega | exact Nat.le_refl _⟩, ⟨by (with_reducible repeat (first | refine blk_drewN ?_ _ | refine blk_drew ?_ | refine blk_alloc ?_ _)); exact BK298.out⟩, ⟨by (with_reducible repeat (first | refine blk_drewN ?_ _ | refine blk_drew ?_ | refine blk_alloc ?_ _)); exact BK307.out⟩, ⟨by repeat (first | (with_reducible first | exact HB.out | apply below_alloc | apply pw_below_drewN | apply below_drew1 | refine below_set ?_ GE298.out | refine below_set ?_ GE307.out) | exact HB.out)⟩⟩
                        · rw [if_neg c42] at H
                          have c42b0 : ((wrap64 ((wrap64 ((wrap64 (t302 * 3600)) + (wrap64 (t303 * 60)))) + t304)) == 0) = false := beq_eq_false_iff_ne.mpr c42
                          have c42b1 : ((wrap64 ((wrap64 ((wrap64 (t302 * 3600)) + (wrap64 (t303 * 60)))) + t304)) != 0) = true := bne_iff_ne.mpr c42
                          (first | rw [c42b0] | (simp only [i64_w, i32_w]; rw [c42b0]) | skip)
                          have H' := Aside0.mk H
                          clear H
                          go_wp2
                          go_meet
                          case rel => exact ⟨_, (true), (by first | rfl | (simp; done) | (simp [*]; done)), H', ⟨by have := HJ3.out; have := HJ9.out; have := HJ19.out; first | omega | exact Nat.le_refl _⟩, ⟨by (with_reducible repeat (first | refine blk_drewN ?_ _ | refine blk_drew ?_ | refine blk_alloc ?_ _)); exact BK298.out⟩, ⟨by (with_reducible repeat (first | refine blk_drewN ?_ _ | refine blk_drew ?_ | refine blk_alloc ?_ _)); exact BK307.out⟩, ⟨by repeat (first | (with_reducible first | exact HB.out | apply below_alloc | apply pw_below_drewN | apply below_drew1 | refine below_set ?_ GE298.out | refine below_set ?_ GE307.out) | exact HB.out)⟩⟩
                      case rest =>
                        clear HC41
                        try clear c1
                        try clear c2
                        try clear p2
                        try clear c3
                        try clear c4
                        try clear c6
                        try clear c6b0
                        try clear p6
                        try clear c7
                        try clear c12
                        try clear c15
                        try clear c16
                        try clear c18
                        try clear c19
                        try clear c21
                        try clear c24
                        try clear c24b0
                        try clear c24b1
                        try clear c25
                        try clear c28
                        try clear c31
                        try clear c31b0
                        try clear c32
                        try clear c32b0
                        try clear c32b1
                        try clear c33
                        try clear c34
                        try clear c34b0
                        try clear c34b1
                        try clear c35
                        try clear c35b0
                        try clear c35b1
                        try clear c38
                        try clear c42
                        try clear c42b0
                        try clear c42b1
                        try clear c43
                        try clear c43b0
                        try clear c43b1
                        try clear c46
                        try clear c49
                        try clear hcz13_0
                        try clear hcz13_1
                        try clear hcz13_2
                        try clear hcz13_3
                        try clear hcz13_4
                        try clear hcz13_5
                        try clear hcz13_6
                        try clear hcz17_0
                        try clear hcz17_1
                        try clear hcz17_2
                        try clear hcz17_3
                        try clear hcz17_4
                        try clear hcz17_5
                        try clear hcz17_6
                        try clear hcz22_0
                        try clear hcz22_1
                        try clear hcz22_2
                        try clear hcz22_3
                        try clear hcz22_4
                        try clear hcz22_5
                        try clear hcz22_6
                        try clear hcz23_0
                        try clear hcz23_1
                        try clear hcz23_2
                        try clear hcz23_3
                        try clear hcz23_4
                        try clear hcz23_5
                        try clear hcz23_6
                        try clear hcz26_0
                        try clear hcz26_1
                        try clear hcz26_2
                        try clear hcz26_3
                        try clear hcz26_4
                        try clear hcz26_5
                        try clear hcz26_6
                        try clear hcz27_0
                        try clear hcz27_1
                        try clear hcz27_2
                        try clear hcz27_3
                        try clear hcz27_4
                        try clear hcz27_5
                        try clear hcz27_6
                        try clear hcz29_0
                        try clear hcz29_1
                        try clear hcz29_2
                        try clear hcz29_3
                        try clear hcz29_4
                        try clear hcz29_5
                        try clear hcz29_6
                        try clear hcz30_0
                        try clear hcz30_1
                        try clear hcz30_2
                        try clear hcz30_3
                        try clear hcz30_4
                        try clear hcz30_5
                        try clear hcz30_6
                        try clear hcz39_0
                        try clear hcz39_1
                        try clear hcz39_2
                        try clear hcz39_3
                        try clear hcz39_4
                        try clear hcz39_5
                        try clear hcz39_6
                        try clear hcz40_0
                        try clear hcz40_1
                        try clear hcz40_2
                        try clear hcz40_3
                        try clear hcz40_4
                        try clear hcz40_5
                        try clear hcz40_6
                        try clear hcz47_0
                        try clear hcz47_1
                        try clear hcz47_2
                        try clear hcz47_3
                        try clear hcz47_4
                        try clear hcz47_5
                        try clear hcz47_6
                        try clear hcz48_0
                        try clear hcz48_1
                        try clear hcz48_2
                        try clear hcz48_3
                        try clear hcz48_4
                        try clear hcz48_5
                        try clear hcz48_6
                        try clear hcz50_0
                        try clear hcz50_1
                        try clear hcz50_2
                        try clear hcz50_3
                        try clear hcz50_4
                        try clear hcz50_5
                        try clear hcz50_6
                        try clear hcz51_0
                        try clear hcz51_1
                        try clear hcz51_2
                        try clear hcz51_3
                        try clear hcz51_4
                        try clear hcz51_5
                        try clear hcz51_6
                        try clear hfz13_0
                        try clear hfz13_1
                        try clear hfz13_2
                        try clear hfz13_3
                        try clear hfz13_4
                        try clear hfz13_5
                        try clear hfz13_6
                        try clear hfz17_0
                        try clear hfz17_1
                        try clear hfz17_2
                        try clear hfz17_3
                        try clear hfz17_4
                        try clear hfz17_5
                        try clear hfz17_6
                        try clear hfz22_0
                        try clear hfz22_1
                        try clear hfz22_2
                        try clear hfz22_3
                        try clear hfz22_4
                        try clear hfz22_5
                        try clear hfz22_6
                        try clear hfz23_0
                        try clear hfz23_1
                        try clear hfz23_2
                        try clear hfz23_3
                        try clear hfz23_4
                        try clear hfz23_5
                        try clear hfz23_6
                        try clear hfz26_0
                        try clear hfz26_1
                        try clear hfz26_2
                        try clear hfz26_3
                        try clear hfz26_4
                        try clear hfz26_5
                        try clear hfz26_6
                        try clear hfz27_0
                        try clear hfz27_1
                        try clear hfz27_2
                        try clear hfz27_3
                        try clear hfz27_4
                        try clear hfz27_5
                        try clear hfz27_6
                        try clear hfz29_0
                        try clear hfz29_1
                        try clear hfz29_2
                        try clear hfz29_3
                        try clear hfz29_4
                        try clear hfz29_5
                        try clear hfz29_6
                        try clear hfz30_0
                        try clear hfz30_1
                        try clear hfz30_2
                        try clear hfz30_3
                        try clear hfz30_4
                        try clear hfz30_5
                        try clear hfz30_6
                        try clear hfz39_0
                        try clear hfz39_1
                        try clear hfz39_2
                        try clear hfz39_3
                        try clear hfz39_4
                        try clear hfz39_5
                        try clear hfz39_6
                        try clear hfz40_0
                        try clear hfz40_1
                        try clear hfz40_2
                        try clear hfz40_3
                        try clear hfz40_4
                        try clear hfz40_5
                        try clear hfz40_6
                        try clear hfz47_0
                        try clear hfz47_1
                        try clear hfz47_2
                        try clear hfz47_3
                        try clear hfz47_4
                        try clear hfz47_5
                        try clear hfz47_6
                        try clear hfz48_0
                        try clear hfz48_1
                        try clear hfz48_2
                        try clear hfz48_3
                        try clear hfz48_4
                        try clear hfz48_5
                        try clear hfz48_6
                        try clear hfz50_0
                        try clear hfz50_1
                        try clear hfz50_2
                        try clear hfz50_3
                        try clear hfz50_4
                        try clear hfz50_5
                        try clear hfz50_6
                        try clear hfz51_0
                        try clear hfz51_1
                        try clear hfz51_2
                        try clear hfz51_3
                        try clear hfz51_4
                        try clear hfz51_5
                        try clear hfz51_6
                        try clear p2
                        try clear p6
                        obtain ⟨kq, x117_40, rfl, HA, HJ40, BK298, BK307, HB⟩ := hcut
                        cases kq with
                        | zero => exact absurd HA.out (by simp [bulletinlaw22_DateGoes.j3])
                        | succ kj40 =>
                          have H := HA.out
                          clear HA
                          simp only [bulletinlaw22_DateGoes.j3] at H
                          by_cases c52 : x117_40 = true
                          · subst c52
                            have H1 : (none) = some r := by rw [if_pos rfl] at H; exact H
                            clear H
                            have H := H1
                            clear H1
                            exact absurd H (by simp)
                          · replace c52 := Bool.eq_false_iff.mpr c52
                            subst c52
                            have H1 : (if t301 = 1 then (if t292 ≥ 28 then (if t299 = t290 then (if t300 = (wrap64 (t291 + 1)) then (some true) else (if t299 = (wrap64 (t290 + 1)) then (if t300 = 1 then (some (t291 == 12)) else (none)) else (none))) else (if t299 = (wrap64 (t290 + 1)) then (if t300 = 1 then (some (t291 == 12)) else (none)) else (none))) else (none)) else (if x9_19 = true then (some (t301 == (wrap64 (t292 + 1)))) else (none))) = some r := by rw [if_neg (show ¬ (false = true) by decide)] at H; exact H
                            clear H
                            have H := H1
                            clear H1
                            by_cases c53 : t301 = 1
                            · rw [if_pos c53] at H
                              have c53b0 : (t301 == 1) = true := beq_iff_eq.mpr c53
                              have c53b1 : (t301 != 1) = false := bne_eq_false_iff_eq.mpr c53
                              clear c53
                              by_cases c54 : t292 ≥ 28
                              · rw [if_pos c54] at H
                                have c54b0 : decide (28 ≤ t292) = true := decide_eq_true c54
                                clear c54
                                by_cases c55 : t299 = t290
                                · rw [if_pos c55] at H
                                  have c55b0 : (t299 == t290) = true := beq_iff_eq.mpr c55
                                  have c55b1 : (t299 != t290) = false := bne_eq_false_iff_eq.mpr c55
                                  clear c55
                                  by_cases c56 : t300 = (wrap64 (t291 + 1))
                                  · rw [if_pos c56] at H
                                    have c56b0 : (t300 == (wrap64 (t291 + 1))) = true := beq_iff_eq.mpr c56
                                    have c56b1 : (t300 != (wrap64 (t291 + 1))) = false := bne_eq_false_iff_eq.mpr c56
                                    clear c56
                                    obtain rfl := Option.some.inj H
                                    have hnb57 := NB307_298.out
                                    have hnc57 := NB298_307.out
                                    have hcz58_0 : wc.cell? ⟨gb307, 0, none⟩ = some (.int .i64 t299) := (blk_cell BK307.out 0).trans rfl
                                    have hcz58_1 : wc.cell? ⟨gb307, 1, none⟩ = some (.int .i64 t300) := (blk_cell BK307.out 1).trans rfl
                                    have hcz58_2 : wc.cell? ⟨gb307, 2, none⟩ = some (.int .i64 t301) := (blk_cell BK307.out 2).trans rfl
                                    have hcz58_3 : wc.cell? ⟨gb307, 3, none⟩ = some (.int .i64 t302) := (blk_cell BK307.out 3).trans rfl
                                    have hcz58_4 : wc.cell? ⟨gb307, 4, none⟩ = some (.int .i64 t303) := (blk_cell BK307.out 4).trans rfl
                                    have hcz58_5 : wc.cell? ⟨gb307, 5, none⟩ = some (.int .i64 t304) := (blk_cell BK307.out 5).trans rfl
                                    have hcz58_6 : wc.cell? ⟨gb307, 6, none⟩ = some (.int .i64 t305) := (blk_cell BK307.out 6).trans rfl
                                    have hfz58_0 := blk_frozen BK307.out 0
                                    have hfz58_1 := blk_frozen BK307.out 1
                                    have hfz58_2 := blk_frozen BK307.out 2
                                    have hfz58_3 := blk_frozen BK307.out 3
                                    have hfz58_4 := blk_frozen BK307.out 4
                                    have hfz58_5 := blk_frozen BK307.out 5
                                    have hfz58_6 := blk_frozen BK307.out 6
                                    have hcz59_0 : wc.cell? ⟨gb298, 0, none⟩ = some (.int .i64 t290) := (blk_cell BK298.out 0).trans rfl
                                    have hcz59_1 : wc.cell? ⟨gb298, 1, none⟩ = some (.int .i64 t291) := (blk_cell BK298.out 1).trans rfl
                                    have hcz59_2 : wc.cell? ⟨gb298, 2, none⟩ = some (.int .i64 t292) := (blk_cell BK298.out 2).trans rfl
                                    have hcz59_3 : wc.cell? ⟨gb298, 3, none⟩ = some (.int .i64 t293) := (blk_cell BK298.out 3).trans rfl
                                    have hcz59_4 : wc.cell? ⟨gb298, 4, none⟩ = some (.int .i64 t294) := (blk_cell BK298.out 4).trans rfl
                                    have hcz59_5 : wc.cell? ⟨gb298, 5, none⟩ = some (.int .i64 t295) := (blk_cell BK298.out 5).trans rfl
                                    have hcz59_6 : wc.cell? ⟨gb298, 6, none⟩ = some (.int .i64 t296) := (blk_cell BK298.out 6).trans rfl
                                    have hfz59_0 := blk_frozen BK298.out 0
                                    have hfz59_1 := blk_frozen BK298.out 1
                                    have hfz59_2 := blk_frozen BK298.out 2
                                    have hfz59_3 := blk_frozen BK298.out 3
                                    have hfz59_4 := blk_frozen BK298.out 4
                                    have hfz59_5 := blk_frozen BK298.out 5
                                    have hfz59_6 := blk_frozen BK298.out 6
                                    go_wp2
                                    go_ret
                                    exact ⟨by first | rfl | (simp [errW_none, errW_some] <;> rfl) | (simp [*, errW_none, errW_some] <;> rfl), by repeat (first | (with_reducible first | exact HB.out | apply below_alloc | apply pw_below_drewN | apply below_drew1 | refine below_set ?_ GE298.out | refine below_set ?_ GE307.out) | exact HB.out)⟩
                                  · rw [if_neg c56] at H
                                    have c56b0 : (t300 == (wrap64 (t291 + 1))) = false := beq_eq_false_iff_ne.mpr c56
                                    have c56b1 : (t300 != (wrap64 (t291 + 1))) = true := bne_iff_ne.mpr c56
                                    by_cases c60 : t299 = (wrap64 (t290 + 1))
                                    · rw [if_pos c60] at H
                                      have c60b0 : (t299 == (wrap64 (t290 + 1))) = true := beq_iff_eq.mpr c60
                                      have c60b1 : (t299 != (wrap64 (t290 + 1))) = false := bne_eq_false_iff_eq.mpr c60
                                      clear c60
                                      by_cases c61 : t300 = 1
                                      · rw [if_pos c61] at H
                                        have c61b0 : (t300 == 1) = true := beq_iff_eq.mpr c61
                                        have c61b1 : (t300 != 1) = false := bne_eq_false_iff_eq.mpr c61
                                        clear c61
                                        obtain rfl := Option.some.inj H
                                        have hnb62 := NB307_298.out
                                        have hnc62 := NB298_307.out
                                        have hcz63_0 : wc.cell? ⟨gb307, 0, none⟩ = some (.int .i64 t299) := (blk_cell BK307.out 0).trans rfl
                                        have hcz63_1 : wc.cell? ⟨gb307, 1, none⟩ = some (.int .i64 t300) := (blk_cell BK307.out 1).trans rfl
                                        have hcz63_2 : wc.cell? ⟨gb307, 2, none⟩ = some (.int .i64 t301) := (blk_cell BK307.out 2).trans rfl
                                        have hcz63_3 : wc.cell? ⟨gb307, 3, none⟩ = some (.int .i64 t302) := (blk_cell BK307.out 3).trans rfl
                                        have hcz63_4 : wc.cell? ⟨gb307, 4, none⟩ = some (.int .i64 t303) := (blk_cell BK307.out 4).trans rfl
                                        have hcz63_5 : wc.cell? ⟨gb307, 5, none⟩ = some (.int .i64 t304) := (blk_cell BK307.out 5).trans rfl
                                        have hcz63_6 : wc.cell? ⟨gb307, 6, none⟩ = some (.int .i64 t305) := (blk_cell BK307.out 6).trans rfl
                                        have hfz63_0 := blk_frozen BK307.out 0
                                        have hfz63_1 := blk_frozen BK307.out 1
                                        have hfz63_2 := blk_frozen BK307.out 2
                                        have hfz63_3 := blk_frozen BK307.out 3
                                        have hfz63_4 := blk_frozen BK307.out 4
                                        have hfz63_5 := blk_frozen BK307.out 5
                                        have hfz63_6 := blk_frozen BK307.out 6
                                        have hcz64_0 : wc.cell? ⟨gb298, 0, none⟩ = some (.int .i64 t290) := (blk_cell BK298.out 0).trans rfl
                                        have hcz64_1 : wc.cell? ⟨gb298, 1, none⟩ = some (.int .i64 t291) := (blk_cell BK298.out 1).trans rfl
                                        have hcz64_2 : wc.cell? ⟨gb298, 2, none⟩ = some (.int .i64 t292) := (blk_cell BK298.out 2).trans rfl
                                        have hcz64_3 : wc.cell? ⟨gb298, 3, none⟩ = some (.int .i64 t293) := (blk_cell BK298.out 3).trans rfl
                                        have hcz64_4 : wc.cell? ⟨gb298, 4, none⟩ = some (.int .i64 t294) := (blk_cell BK298.out 4).trans rfl
                                        have hcz64_5 : wc.cell? ⟨gb298, 5, none⟩ = some (.int .i64 t295) := (blk_cell BK298.out 5).trans rfl
                                        have hcz64_6 : wc.cell? ⟨gb298, 6, none⟩ = some (.int .i64 t296) := (blk_cell BK298.out 6).trans rfl
                                        have hfz64_0 := blk_frozen BK298.out 0
                                        have hfz64_1 := blk_frozen BK298.out 1
                                        have hfz64_2 := blk_frozen BK298.out 2
                                        have hfz64_3 := blk_frozen BK298.out 3
                                        have hfz64_4 := blk_frozen BK298.out 4
                                        have hfz64_5 := blk_frozen BK298.out 5
                                        have hfz64_6 := blk_frozen BK298.out 6
                                        go_wp2
                                        go_ret
                                        exact ⟨by first | rfl | (simp [errW_none, errW_some] <;> rfl) | (simp [*, errW_none, errW_some] <;> rfl), by repeat (first | (with_reducible first | exact HB.out | apply below_alloc | apply pw_below_drewN | apply below_drew1 | refine below_set ?_ GE298.out | refine below_set ?_ GE307.out) | exact HB.out)⟩
                                      · rw [if_neg c61] at H
                                        exact absurd H (by simp)
                                    · rw [if_neg c60] at H
                                      exact absurd H (by simp)
                                · rw [if_neg c55] at H
                                  have c55b0 : (t299 == t290) = false := beq_eq_false_iff_ne.mpr c55
                                  have c55b1 : (t299 != t290) = true := bne_iff_ne.mpr c55
                                  by_cases c65 : t299 = (wrap64 (t290 + 1))
                                  · rw [if_pos c65] at H
                                    have c65b0 : (t299 == (wrap64 (t290 + 1))) = true := beq_iff_eq.mpr c65
                                    have c65b1 : (t299 != (wrap64 (t290 + 1))) = false := bne_eq_false_iff_eq.mpr c65
                                    clear c65
                                    by_cases c66 : t300 = 1
                                    · rw [if_pos c66] at H
                                      have c66b0 : (t300 == 1) = true := beq_iff_eq.mpr c66
                                      have c66b1 : (t300 != 1) = false := bne_eq_false_iff_eq.mpr c66
                                      clear c66
                                      obtain rfl := Option.some.inj H
                                      have hnb67 := NB307_298.out
                                      have hnc67 := NB298_307.out
                                      have hcz68_0 : wc.cell? ⟨gb307, 0, none⟩ = some (.int .i64 t299) := (blk_cell BK307.out 0).trans rfl
                                      have hcz68_1 : wc.cell? ⟨gb307, 1, none⟩ = some (.int .i64 t300) := (blk_cell BK307.out 1).trans rfl
                                      have hcz68_2 : wc.cell? ⟨gb307, 2, none⟩ = some (.int .i64 t301) := (blk_cell BK307.out 2).trans rfl
                                      have hcz68_3 : wc.cell? ⟨gb307, 3, none⟩ = some (.int .i64 t302) := (blk_cell BK307.out 3).trans rfl
                                      have hcz68_4 : wc.cell? ⟨gb307, 4, none⟩ = some (.int .i64 t303) := (blk_cell BK307.out 4).trans rfl
                                      have hcz68_5 : wc.cell? ⟨gb307, 5, none⟩ = some (.int .i64 t304) := (blk_cell BK307.out 5).trans rfl
                                      have hcz68_6 : wc.cell? ⟨gb307, 6, none⟩ = some (.int .i64 t305) := (blk_cell BK307.out 6).trans rfl
                                      have hfz68_0 := blk_frozen BK307.out 0
                                      have hfz68_1 := blk_frozen BK307.out 1
                                      have hfz68_2 := blk_frozen BK307.out 2
                                      have hfz68_3 := blk_frozen BK307.out 3
                                      have hfz68_4 := blk_frozen BK307.out 4
                                      have hfz68_5 := blk_frozen BK307.out 5
                                      have hfz68_6 := blk_frozen BK307.out 6
                                      have hcz69_0 : wc.cell? ⟨gb298, 0, none⟩ = some (.int .i64 t290) := (blk_cell BK298.out 0).trans rfl
                                      have hcz69_1 : wc.cell? ⟨gb298, 1, none⟩ = some (.int .i64 t291) := (blk_cell BK298.out 1).trans rfl
                                      have hcz69_2 : wc.cell? ⟨gb298, 2, none⟩ = some (.int .i64 t292) := (blk_cell BK298.out 2).trans rfl
                                      have hcz69_3 : wc.cell? ⟨gb298, 3, none⟩ = some (.int .i64 t293) := (blk_cell BK298.out 3).trans rfl
                                      have hcz69_4 : wc.cell? ⟨gb298, 4, none⟩ = some (.int .i64 t294) := (blk_cell BK298.out 4).trans rfl
                                      have hcz69_5 : wc.cell? ⟨gb298, 5, none⟩ = some (.int .i64 t295) := (blk_cell BK298.out 5).trans rfl
                                      have hcz69_6 : wc.cell? ⟨gb298, 6, none⟩ = some (.int .i64 t296) := (blk_cell BK298.out 6).trans rfl
                                      have hfz69_0 := blk_frozen BK298.out 0
                                      have hfz69_1 := blk_frozen BK298.out 1
                                      have hfz69_2 := blk_frozen BK298.out 2
                                      have hfz69_3 := blk_frozen BK298.out 3
                                      have hfz69_4 := blk_frozen BK298.out 4
                                      have hfz69_5 := blk_frozen BK298.out 5
                                      have hfz69_6 := blk_frozen BK298.out 6
                                      go_wp2
                                      go_ret
                                      exact ⟨by first | rfl | (simp [errW_none, errW_some] <;> rfl) | (simp [*, errW_none, errW_some] <;> rfl), by repeat (first | (with_reducible first | exact HB.out | apply below_alloc | apply pw_below_drewN | apply below_drew1 | refine below_set ?_ GE298.out | refine below_set ?_ GE307.out) | exact HB.out)⟩
                                    · rw [if_neg c66] at H
                                      exact absurd H (by simp)
                                  · rw [if_neg c65] at H
                                    exact absurd H (by simp)
                              · rw [if_neg c54] at H
                                exact absurd H (by simp)
                            · rw [if_neg c53] at H
                              have c53b0 : (t301 == 1) = false := beq_eq_false_iff_ne.mpr c53
                              have c53b1 : (t301 != 1) = true := bne_iff_ne.mpr c53
                              by_cases c70 : x9_19 = true
                              · subst c70
                                have H1 : (some (t301 == (wrap64 (t292 + 1)))) = some r := by rw [if_pos rfl] at H; exact H
                                clear H
                                have H := H1
                                clear H1
                                obtain rfl := Option.some.inj H
                                have hnb71 := NB307_298.out
                                have hnc71 := NB298_307.out
                                have hcz72_0 : wc.cell? ⟨gb307, 0, none⟩ = some (.int .i64 t299) := (blk_cell BK307.out 0).trans rfl
                                have hcz72_1 : wc.cell? ⟨gb307, 1, none⟩ = some (.int .i64 t300) := (blk_cell BK307.out 1).trans rfl
                                have hcz72_2 : wc.cell? ⟨gb307, 2, none⟩ = some (.int .i64 t301) := (blk_cell BK307.out 2).trans rfl
                                have hcz72_3 : wc.cell? ⟨gb307, 3, none⟩ = some (.int .i64 t302) := (blk_cell BK307.out 3).trans rfl
                                have hcz72_4 : wc.cell? ⟨gb307, 4, none⟩ = some (.int .i64 t303) := (blk_cell BK307.out 4).trans rfl
                                have hcz72_5 : wc.cell? ⟨gb307, 5, none⟩ = some (.int .i64 t304) := (blk_cell BK307.out 5).trans rfl
                                have hcz72_6 : wc.cell? ⟨gb307, 6, none⟩ = some (.int .i64 t305) := (blk_cell BK307.out 6).trans rfl
                                have hfz72_0 := blk_frozen BK307.out 0
                                have hfz72_1 := blk_frozen BK307.out 1
                                have hfz72_2 := blk_frozen BK307.out 2
                                have hfz72_3 := blk_frozen BK307.out 3
                                have hfz72_4 := blk_frozen BK307.out 4
                                have hfz72_5 := blk_frozen BK307.out 5
                                have hfz72_6 := blk_frozen BK307.out 6
                                have hcz73_0 : wc.cell? ⟨gb298, 0, none⟩ = some (.int .i64 t290) := (blk_cell BK298.out 0).trans rfl
                                have hcz73_1 : wc.cell? ⟨gb298, 1, none⟩ = some (.int .i64 t291) := (blk_cell BK298.out 1).trans rfl
                                have hcz73_2 : wc.cell? ⟨gb298, 2, none⟩ = some (.int .i64 t292) := (blk_cell BK298.out 2).trans rfl
                                have hcz73_3 : wc.cell? ⟨gb298, 3, none⟩ = some (.int .i64 t293) := (blk_cell BK298.out 3).trans rfl
                                have hcz73_4 : wc.cell? ⟨gb298, 4, none⟩ = some (.int .i64 t294) := (blk_cell BK298.out 4).trans rfl
                                have hcz73_5 : wc.cell? ⟨gb298, 5, none⟩ = some (.int .i64 t295) := (blk_cell BK298.out 5).trans rfl
                                have hcz73_6 : wc.cell? ⟨gb298, 6, none⟩ = some (.int .i64 t296) := (blk_cell BK298.out 6).trans rfl
                                have hfz73_0 := blk_frozen BK298.out 0
                                have hfz73_1 := blk_frozen BK298.out 1
                                have hfz73_2 := blk_frozen BK298.out 2
                                have hfz73_3 := blk_frozen BK298.out 3
                                have hfz73_4 := blk_frozen BK298.out 4
                                have hfz73_5 := blk_frozen BK298.out 5
                                have hfz73_6 := blk_frozen BK298.out 6
                                go_wp2
                                go_ret
                                exact ⟨by first | rfl | (simp [errW_none, errW_some] <;> rfl) | (simp [*, errW_none, errW_some] <;> rfl), by repeat (first | (with_reducible first | exact HB.out | apply below_alloc | apply pw_below_drewN | apply below_drew1 | refine below_set ?_ GE298.out | refine below_set ?_ GE307.out) | exact HB.out)⟩
                              · replace c70 := Bool.eq_false_iff.mpr c70
                                subst c70
                                have H1 : (none) = some r := by rw [if_neg (show ¬ (false = true) by decide)] at H; exact H
                                clear H
                                have H := H1
                                clear H1
                                exact absurd H (by simp)
  · replace c3 := Bool.eq_false_iff.mpr c3
    subst c3
    have H1 : (none) = some r := by rw [if_neg (show ¬ (false = true) by decide)] at H; exact H
    clear H
    have H := H1
    clear H1
    exact absurd H (by simp)

/-- THE ONE PURE STATEMENT of bulletinlaw22_DateGoes: yours. -/
def bulletinlaw22_DateGoes.Pure : Prop := ∀ (a0 : Int), (Lit.int .i64 a0).wf = true → ∃ k, bulletinlaw22_DateGoes.f k a0 = some true
theorem bulletinlaw22_DateGoes.walk (P : bulletinlaw22_DateGoes.Pure) (a0 : Int) (w : World) (hG : Amb w) (w0 : (Lit.int .i64 a0).wf = true) :
    Calls Tryd.prog 7 #[.int .i64 a0] w fun e w' => e = .returned (.bool true) ∧ Below w.heap.size w w' := by
  obtain ⟨k, h⟩ := P a0 w0
  refine (bulletinlaw22_DateGoes.calls k a0 true w hG h).mono ?_
  rintro e w' ⟨rfl, hd⟩
  exact ⟨rfl, hd⟩

end Go.Proofs.YtocdojegoakmoaaDoor.Q
