-- Written by a program of this session (wip/myprint) out of the translation, for YtcgfaagadejpmaaDoor.
import Derived.Test.YtcgfaagadejpmaaDoorQ0
import Derived.Test.YtcgfaagadejpmaaDoorQ1
import Derived.Test.YtcgfaagadejpmaaDoorQ13
import Derived.Test.YtcgfaagadejpmaaDoorQ14
namespace Go.Proofs.YtcgfaagadejpmaaDoor.Q
open Go.RowKit Go.Proofs.YtcgfaagadejpmaaDoorW.PrintWords Go.Proofs.YtcgfaagadejpmaaDoorW.PrintLast Go.Proofs.YtcgfaagadejpmaaDoorW.PrintMore Go.Proofs.YtcgfaagadejpmaaDoorW.PrintSq
attribute [local go_sem] max2_int min2_int max_two min_two max_three min_three max_four min_four   -- for this text's walks alone
set_option linter.unusedVariables false
set_option linter.unusedSimpArgs false

attribute [local go_sem high] eqA30
/-! ### bulletinlaw48_works: function 6 -/
def bulletinlaw48_works.f (k : Nat)  : Option (Bool) := (script_Read.f k (⟨#[109, 97, 105, 108, 32, 97, 64, 98, 32, 100, 101, 118, 64, 120, 46, 111, 114, 103, 32, 104, 105, 92, 114, 92, 110, 10]⟩ : ByteArray)).bind fun bt296 => (if bt296.2.2 = 0 then (if bt296.2.1 = 0 then (if (bt296.1.length : Int) = 1 then (if 0 < (bt296.1.length : Int) then (if (((rd_T30 bt296.1 0).f0) == 3 && ((((rd_T30 bt296.1 0).f1).toList) == ([97, 64, 98] : List UInt8) && ((((rd_T30 bt296.1 0).f2).toList) == ([100, 101, 118, 64, 120, 46, 111, 114, 103] : List UInt8) && ((((rd_T30 bt296.1 0).f3).toList) == ([104, 105, 13, 10] : List UInt8) && (((rd_T30 bt296.1 0).f4) == 0))))) = true then ((script_Show.f k ((rd_T30 bt296.1 0).f0) ((rd_T30 bt296.1 0).f1) ((rd_T30 bt296.1 0).f2) ((rd_T30 bt296.1 0).f3) ((rd_T30 bt296.1 0).f4)).bind fun t303 => (some (t303.toList == ([109, 97, 105, 108, 32, 97, 64, 98, 32, 100, 101, 118, 64, 120, 46, 111, 114, 103, 32, 104, 105, 92, 114, 92, 110] : List UInt8)))) else (none)) else (none)) else (none)) else (none)) else (none))
theorem bulletinlaw48_works.mono : ∀ k, LeO (bulletinlaw48_works.f k ) (bulletinlaw48_works.f (k + 1) ) := by
  intro  k
  unfold bulletinlaw48_works.f
  repeat' first | (with_reducible first | exact script_Read.mono _ _ | exact script_Show.mono _ _ _ _ _ _ | exact LeO.refl _ | exact LeO.none _ | refine LeO.ite ?_ ?_ | refine LeO.bind ?_ (fun _ => ?_)) | exact script_Read.mono _ _ | exact script_Show.mono _ _ _ _ _ _ | exact LeO.none _ | refine LeO.ite ?_ ?_ | refine LeO.bind ?_ (fun _ => ?_)
set_option maxHeartbeats 8000000 in
set_option maxRecDepth 100000 in
theorem bulletinlaw48_works.calls (k : Nat)  (r : Bool) (w : World) (hG : Amb w) (h : bulletinlaw48_works.f k  = some r) :
    Calls Tryd.prog 6 #[] w fun e w' => e = .returned (.bool r) ∧ Below w.heap.size w w' := by
 have hu30 := Tryd.underlying30
 have HB := Aside0.mk (Below.refl w.heap.size w)
 unfold bulletinlaw48_works.f at h
 have H := h
 clear h
 have HG := Aside0.mk hG
 clear hG
 replace H := Option.bind_eq_some_iff.mp H
 obtain ⟨⟨t296, t297, t298⟩, A10, H⟩ := H
 try dsimp only at H
 have A1 := Aside0.mk A10
 clear A10
 obtain ⟨c2, H⟩ := iteS H
 have c2b0 := beq_iff_eq.mpr c2
 have c2b1 := bne_eq_false_iff_eq.mpr c2
 clear c2
 obtain ⟨c3, H⟩ := iteS H
 have c3b0 := beq_iff_eq.mpr c3
 have c3b1 := bne_eq_false_iff_eq.mpr c3
 clear c3
 obtain ⟨c4, H⟩ := iteS H
 have c4b0 := beq_iff_eq.mpr c4
 have c4b1 := bne_eq_false_iff_eq.mpr c4
 clear c4
 obtain ⟨c5, H⟩ := iteS H
 have c5b0 := decide_eq_true c5
 have c5b1 : decide (0 < t296.length) = true := decide_eq_true (by omega)
 clear c5
 obtain ⟨c6, H⟩ := iteS H
 have c6b0 : (((rd_T30 t296 0).f0) == 3 && ((((rd_T30 t296 0).f1).toList) == ([97, 64, 98] : List UInt8) && ((((rd_T30 t296 0).f2).toList) == ([100, 101, 118, 64, 120, 46, 111, 114, 103] : List UInt8) && ((((rd_T30 t296 0).f3).toList) == ([104, 105, 13, 10] : List UInt8) && (((rd_T30 t296 0).f4) == 0))))) = true := c6
 (try (have c6b1 : decide (((rd_T30 t296 0).f0) = 3 && ((((rd_T30 t296 0).f1).toList) == ([97, 64, 98] : List UInt8) && ((((rd_T30 t296 0).f2).toList) == ([100, 101, 118, 64, 120, 46, 111, 114, 103] : List UInt8) && ((((rd_T30 t296 0).f3).toList) == ([104, 105, 13, 10] : List UInt8) && (((rd_T30 t296 0).f4) == 0))))) = true := by simpa using c6))
 (try (have c6b2 : (((rd_T30 t296 0).f0) == 3 && ((((rd_T30 t296 0).f1).toList) == ([97, 64, 98] : List UInt8) && ((((rd_T30 t296 0).f2).toList) == ([100, 101, 118, 64, 120, 46, 111, 114, 103] : List UInt8) && ((((rd_T30 t296 0).f3).toList) == ([104, 105, 13, 10] : List UInt8) && (((rd_T30 t296 0).f4) == 0))))) = true := by simpa using c6))
 clear c6
 replace H := Option.bind_eq_some_iff.mp H
 obtain ⟨t303, A70, H⟩ := H
 try dsimp only at H
 have A7 := Aside0.mk A70
 clear A70
 obtain rfl := Option.some.inj H
 go_enter Tryd.func6, Tryd.ntmps6
 go_wp2_with (first | ((with_reducible refine gc 7 rfl ?_); refine gl_ (some 5) Tryd.func7 #[.string (⟨#[109, 97, 105, 108, 32, 97, 64, 98, 32, 100, 101, 118, 64, 120, 46, 111, 114, 103, 32, 104, 105, 92, 114, 92, 110, 10]⟩ : ByteArray)] ?_; (with_reducible refine (script_Read.calls k (⟨#[109, 97, 105, 108, 32, 97, 64, 98, 32, 100, 101, 118, 64, 120, 46, 111, 114, 103, 32, 104, 105, 92, 114, 92, 110, 10]⟩ : ByteArray) t296 t297 t298 _ ?side1 A1.out).mono ?_); (case side1 => exact Amb.at HG.out blw); rintro e w8 ⟨v299, rfl, ho0, hb⟩; refine ⟨_, rfl, ?_⟩; have HO300 := Aside0.mk (Kd.R_lower ho0 (below_size blw)); replace HB := Aside0.mk (below_step blw hb); (try clear hb); (try clear ho0); obtain ⟨Ao9, co9, eo9⟩ := Kd.R_slice HO300.out; subst eo9; have p301 : 0 ≤ (0 : Int) := (by omega); have q301 : 0 < (t296.length : Int) := od_; obtain ⟨ad301, e301, hx301_0, hx301_1, hx301_2, hx301_3, hx301_4⟩ := at_T30 (Kd.R_reads' HO300.out).2.2 0 p301 q301; cases e301; have qi301 : (0 < t296.length) = True := eq_true (by omega); (try rw [show ((0 : Int)).toNat = 0 from rfl] at hx301_0); (try rw [show 0 * 5 = 0 from rfl] at hx301_0); (try rw [Addr.add_zero'] at hx301_0); (try rw [show ((0 : Int)).toNat = 0 from rfl] at hx301_1); (try rw [show 0 * 5 = 0 from rfl] at hx301_1); (try rw [Addr.add_zero'] at hx301_1); (try rw [show ((0 : Int)).toNat = 0 from rfl] at hx301_2); (try rw [show 0 * 5 = 0 from rfl] at hx301_2); (try rw [Addr.add_zero'] at hx301_2); (try rw [show ((0 : Int)).toNat = 0 from rfl] at hx301_3); (try rw [show 0 * 5 = 0 from rfl] at hx301_3); (try rw [Addr.add_zero'] at hx301_3); (try rw [show ((0 : Int)).toNat = 0 from rfl] at hx301_4); (try rw [show 0 * 5 = 0 from rfl] at hx301_4); (try rw [Addr.add_zero'] at hx301_4); replace p301 := eq_true p301; replace q301 := eq_true q301; have p302 : 0 ≤ (0 : Int) := (by omega); have q302 : 0 < (t296.length : Int) := od_; obtain ⟨ad302, e302, hx302_0, hx302_1, hx302_2, hx302_3, hx302_4⟩ := at_T30 (Kd.R_reads' HO300.out).2.2 0 p302 q302; obtain rfl : ad301 = ad302 := (by injection e302); have qi302 : (0 < t296.length) = True := eq_true (by omega); (try rw [show ((0 : Int)).toNat = 0 from rfl] at hx302_0); (try rw [show 0 * 5 = 0 from rfl] at hx302_0); (try rw [Addr.add_zero'] at hx302_0); (try rw [show ((0 : Int)).toNat = 0 from rfl] at hx302_1); (try rw [show 0 * 5 = 0 from rfl] at hx302_1); (try rw [Addr.add_zero'] at hx302_1); (try rw [show ((0 : Int)).toNat = 0 from rfl] at hx302_2); (try rw [show 0 * 5 = 0 from rfl] at hx302_2); (try rw [Addr.add_zero'] at hx302_2); (try rw [show ((0 : Int)).toNat = 0 from rfl] at hx302_3); (try rw [show 0 * 5 = 0 from rfl] at hx302_3); (try rw [Addr.add_zero'] at hx302_3); (try rw [show ((0 : Int)).toNat = 0 from rfl] at hx302_4); (try rw [show 0 * 5 = 0 from rfl] at hx302_4); (try rw [Addr.add_zero'] at hx302_4); replace p302 := eq_true p302; replace q302 := eq_true q302) | (go_at_call 8; (with_reducible refine (script_Show.calls k ((rd_T30 t296 0).f0) ((rd_T30 t296 0).f1) ((rd_T30 t296 0).f2) ((rd_T30 t296 0).f3) ((rd_T30 t296 0).f4) t303 _ ?side1 A7.out).mono ?_); (case side1 => exact Amb.at HG.out blw); rintro e w10 ⟨rfl, hb⟩; replace HO300 := Aside0.mk (Kd.R_below (by (with_reducible repeat (first | apply Kd.R_alloc | apply Kd.R_drewN | apply Kd.R_drew)); exact HO300.out) hb); replace HB := Aside0.mk (below_step blw hb); (try clear hb)))
 go_ret
 exact ⟨by first | rfl | (simp [errW_none, errW_some] <;> rfl) | (simp [*, errW_none, errW_some] <;> rfl), blw⟩

/-! ### bulletinlaw48_ScriptMany: function 3 -/
mutual
def bulletinlaw48_ScriptMany.j0 : Nat → Int → Int → Bool → Option (Bool)
  | 0, _, _, _ => none
  | k + 1, x0, x1, x24 => if x24 = true then ((bulletinlaw48_works.f k).bind fun t304 => (some t304)) else (bulletinlaw48_ScriptMany.l0 k x0 x1 (⟨#[]⟩ : ByteArray) 0)
def bulletinlaw48_ScriptMany.l0 : Nat → Int → Int → ByteArray → Int → Option (Bool)
  | 0, _, _, _, _ => none
  | k + 1, x0, x1, x5, x6 => if x6 < x1 then (if x5.size + 2 ≤ 9223372036854775807 then (bulletinlaw48_ScriptMany.l0 k x0 x1 (x5 ++ (⟨#[35, 10]⟩ : ByteArray)) (wrap64 (x6 + 1))) else (none)) else (bulletinlaw48_ScriptMany.l1 k x0 x1 x5 0)
def bulletinlaw48_ScriptMany.l1 : Nat → Int → Int → ByteArray → Int → Option (Bool)
  | 0, _, _, _, _ => none
  | k + 1, x0, x1, x5, x7 => if x7 < x0 then (if x5.size + 7 ≤ 9223372036854775807 then (bulletinlaw48_ScriptMany.l1 k x0 x1 (x5 ++ (⟨#[116, 105, 99, 107, 32, 49, 10]⟩ : ByteArray)) (wrap64 (x7 + 1))) else (none)) else ((script_Read.f k x5).bind fun bt305 => (if x0 > 200 then (if (bt305.1.length : Int) = 0 then (if bt305.2.1 = (wrap64 (x1 + 201)) then (if bt305.2.2 = 8 then ((bulletinlaw48_works.f k).bind fun t310 => (some t310)) else (none)) else (none)) else (none)) else (if (bt305.1.length : Int) = x0 then (if bt305.2.1 = 0 then (if bt305.2.2 = 0 then ((bulletinlaw48_works.f k).bind fun t311 => (some t311)) else (none)) else (none)) else (none))))
end
def bulletinlaw48_ScriptMany.f (k : Nat) (a0 : Int) (a1 : Int) : Option (Bool) := if a0 < 0 then (bulletinlaw48_ScriptMany.j0 k a0 a1 true) else (if a0 > 220 then (bulletinlaw48_ScriptMany.j0 k a0 a1 true) else (if a1 < 0 then (bulletinlaw48_ScriptMany.j0 k a0 a1 true) else (bulletinlaw48_ScriptMany.j0 k a0 a1 (decide (a1 > 220)))))
theorem bulletinlaw48_ScriptMany.mono_l : ∀ k, (∀ y0 y1 y2, LeO (bulletinlaw48_ScriptMany.j0 k y0 y1 y2) (bulletinlaw48_ScriptMany.j0 (k + 1) y0 y1 y2)) ∧ (∀ y0 y1 y2 y3, LeO (bulletinlaw48_ScriptMany.l0 k y0 y1 y2 y3) (bulletinlaw48_ScriptMany.l0 (k + 1) y0 y1 y2 y3)) ∧ (∀ y0 y1 y2 y3, LeO (bulletinlaw48_ScriptMany.l1 k y0 y1 y2 y3) (bulletinlaw48_ScriptMany.l1 (k + 1) y0 y1 y2 y3))
  | 0 => ⟨fun _ _ _ r h => by simp [bulletinlaw48_ScriptMany.j0] at h, fun _ _ _ _ r h => by simp [bulletinlaw48_ScriptMany.l0] at h, fun _ _ _ _ r h => by simp [bulletinlaw48_ScriptMany.l1] at h⟩
  | k + 1 => by
    obtain ⟨ih0, ih1, ih2⟩ := bulletinlaw48_ScriptMany.mono_l k
    refine ⟨?_, ?_, ?_⟩
    · intro y0 y1 y2
      unfold bulletinlaw48_ScriptMany.j0
      repeat' first | (with_reducible first | exact ih0 _ _ _ | exact ih1 _ _ _ _ | exact ih2 _ _ _ _ | exact bulletinlaw48_works.mono _ | exact script_Read.mono _ _ | exact LeO.refl _ | exact LeO.none _ | refine LeO.ite ?_ ?_ | refine LeO.bind ?_ (fun _ => ?_)) | exact ih0 _ _ _ | exact ih1 _ _ _ _ | exact ih2 _ _ _ _ | exact bulletinlaw48_works.mono _ | exact script_Read.mono _ _ | exact LeO.none _ | refine LeO.ite ?_ ?_ | refine LeO.bind ?_ (fun _ => ?_)
    · intro y0 y1 y2 y3
      unfold bulletinlaw48_ScriptMany.l0
      repeat' first | (with_reducible first | exact ih0 _ _ _ | exact ih1 _ _ _ _ | exact ih2 _ _ _ _ | exact bulletinlaw48_works.mono _ | exact script_Read.mono _ _ | exact LeO.refl _ | exact LeO.none _ | refine LeO.ite ?_ ?_ | refine LeO.bind ?_ (fun _ => ?_)) | exact ih0 _ _ _ | exact ih1 _ _ _ _ | exact ih2 _ _ _ _ | exact bulletinlaw48_works.mono _ | exact script_Read.mono _ _ | exact LeO.none _ | refine LeO.ite ?_ ?_ | refine LeO.bind ?_ (fun _ => ?_)
    · intro y0 y1 y2 y3
      unfold bulletinlaw48_ScriptMany.l1
      repeat' first | (with_reducible first | exact ih0 _ _ _ | exact ih1 _ _ _ _ | exact ih2 _ _ _ _ | exact bulletinlaw48_works.mono _ | exact script_Read.mono _ _ | exact LeO.refl _ | exact LeO.none _ | refine LeO.ite ?_ ?_ | refine LeO.bind ?_ (fun _ => ?_)) | exact ih0 _ _ _ | exact ih1 _ _ _ _ | exact ih2 _ _ _ _ | exact bulletinlaw48_works.mono _ | exact script_Read.mono _ _ | exact LeO.none _ | refine LeO.ite ?_ ?_ | refine LeO.bind ?_ (fun _ => ?_)
theorem bulletinlaw48_ScriptMany.mono : ∀ a0 a1 k, LeO (bulletinlaw48_ScriptMany.f k a0 a1) (bulletinlaw48_ScriptMany.f (k + 1) a0 a1) := by
  intro a0 a1 k
  obtain ⟨ih0, ih1, ih2⟩ := bulletinlaw48_ScriptMany.mono_l k
  unfold bulletinlaw48_ScriptMany.f
  repeat' first | (with_reducible first | exact ih0 _ _ _ | exact ih1 _ _ _ _ | exact ih2 _ _ _ _ | exact bulletinlaw48_works.mono _ | exact script_Read.mono _ _ | exact LeO.refl _ | exact LeO.none _ | refine LeO.ite ?_ ?_ | refine LeO.bind ?_ (fun _ => ?_)) | exact ih0 _ _ _ | exact ih1 _ _ _ _ | exact ih2 _ _ _ _ | exact bulletinlaw48_works.mono _ | exact script_Read.mono _ _ | exact LeO.none _ | refine LeO.ite ?_ ?_ | refine LeO.bind ?_ (fun _ => ?_)
set_option maxHeartbeats 8000000 in
set_option maxRecDepth 100000 in
theorem bulletinlaw48_ScriptMany.calls (k : Nat) (a0 : Int) (a1 : Int) (r : Bool) (w : World) (hG : Amb w) (h : bulletinlaw48_ScriptMany.f k a0 a1 = some r) :
    Calls Tryd.prog 3 #[.int .i64 a0, .int .i64 a1] w fun e w' => e = .returned (.bool r) ∧ Below w.heap.size w w' := by
 have HB := Aside0.mk (Below.refl w.heap.size w)
 unfold bulletinlaw48_ScriptMany.f at h
 have H := h
 clear h
 have HG := Aside0.mk hG
 clear hG
 have HC3 := Aside0.mk H
 clear H
 go_enter Tryd.func3, Tryd.ntmps3
 go_upto_region 1 with (fail)
 go_cut [24] (fun v24 wc => ∃ (kq : Nat) (x24_2 : Bool), v24 = .bool x24_2 ∧ Aside0 (bulletinlaw48_ScriptMany.j0 kq a0 a1 x24_2 = some r) ∧ Aside0 (kq ≤ k) ∧ Aside0 (Below w.heap.size w wc))
 case first =>
  have H := HC3.out
  clear HC3
  by_cases c4 : a0 < 0
  ·rw [if_pos c4] at H
   have c4b0 := decide_eq_true c4
   clear c4
   (first | rw [c4b0] | (simp only [i64_w, i32_w]; rw [c4b0]) | skip)
   have H' := Aside0.mk H
   clear H
   go_wp2
   go_meet
   case rel => exact ⟨_, (true), eqs, H', omk, ⟨blw⟩⟩
  ·rw [if_neg c4] at H
   have c4b0 := decide_eq_false c4
   clear c4
   (first | rw [c4b0] | (simp only [i64_w, i32_w]; rw [c4b0]) | skip)
   by_cases c5 : a0 > 220
   ·rw [if_pos c5] at H
    have c5b0 : decide (220 < a0) = true := decide_eq_true c5
    clear c5
    have H' := Aside0.mk H
    clear H
    go_wp2
    go_meet
    case rel => exact ⟨_, (true), eqs, H', omk, ⟨blw⟩⟩
   ·rw [if_neg c5] at H
    have c5b0 : decide (220 < a0) = false := decide_eq_false c5
    clear c5
    by_cases c6 : a1 < 0
    ·rw [if_pos c6] at H
     have c6b0 := decide_eq_true c6
     clear c6
     have H' := Aside0.mk H
     clear H
     go_wp2
     go_meet
     case rel => exact ⟨_, (true), eqs, H', omk, ⟨blw⟩⟩
    ·rw [if_neg c6] at H
     have c6b0 := decide_eq_false c6
     clear c6
     have H' := Aside0.mk H
     clear H
     go_wp2
     go_meet
     case rel => exact ⟨_, (decide (a1 > 220)), eqs, H', omk, ⟨blw⟩⟩
 case rest =>
  clear HC3
  try clear p2
  try clear c3
  try clear c4
  try clear c4b0
  try clear c5
  try clear c5b0
  try clear c6
  try clear c6b0
  obtain ⟨kq, x24_2, rfl, HA, HJ2, HB⟩ := hcut
  cases kq with
  | zero => exact absurd HA.out (by simp [bulletinlaw48_ScriptMany.j0])
  | succ kj2 =>
   have H := HA.out
   clear HA
   simp only [bulletinlaw48_ScriptMany.j0] at H
   by_cases c7 : x24_2 = true
   ·subst c7
    rw [if_pos rfl] at H
    replace H := Option.bind_eq_some_iff.mp H
    obtain ⟨t304, A80, H⟩ := H
    try dsimp only at H
    have A8 := Aside0.mk A80
    clear A80
    obtain rfl := Option.some.inj H
    go_wp2_with (first | ((with_reducible refine gc 6 rfl ?_); refine cl_ (some 25) Tryd.func6 (bulletinlaw48_works.calls kj2  t304 _ (Amb.at HG.out blw) A8.out) ?_; rintro w9 hb; replace HB := Aside0.mk (below_step blw hb); (try clear hb)))
    go_ret
    exact ⟨by first | rfl | (simp [errW_none, errW_some] <;> rfl) | (simp [*, errW_none, errW_some] <;> rfl), blw⟩
   ·replace c7 := Bool.eq_false_iff.mpr c7
    subst c7
    rw [if_neg nft] at H
    have H' := Aside0.mk H
    clear H
    go_wp2
    go_loopg [5, 6] kj2 (fun kq v5 v6 w' => ∃ (x5_2 : ByteArray) (x6_2 : Int), v5 = .string x5_2 ∧ v6 = .int .i64 x6_2 ∧ Aside0 (bulletinlaw48_ScriptMany.l0 kq a0 a1 x5_2 x6_2 = some r) ∧ Aside0 (kq ≤ kj2) ∧ Aside0 (Below w.heap.size w w'))
    case atStart => exact ⟨((⟨#[]⟩ : ByteArray)), (0), eqs, eqs, H', ⟨Nat.le_refl _⟩, ⟨blw⟩⟩
    case round =>
     clear H'
     try clear p2
     try clear c3
     try clear c4
     try clear c4b0
     try clear c5
     try clear c5b0
     try clear c6
     try clear c6b0
     try clear c7
     try clear p2
     obtain ⟨x5_2, x6_2, rfl, rfl, HA, HK2, HB⟩ := hrel
     cases gk with
     | zero => exact absurd HA.out (by simp [bulletinlaw48_ScriptMany.l0])
     | succ k2 =>
      have H := HA.out
      clear HA
      simp only [bulletinlaw48_ScriptMany.l0] at H
      by_cases c10 : x6_2 < a1
      ·rw [if_pos c10] at H
       have c10b0 := decide_eq_true c10
       clear c10
       obtain ⟨c11, H⟩ := iteS H
       have c11b0 := eq_true c11
       have c11b1 := decide_eq_true c11
       try have c11b2 := eq_false (Nat.not_lt.2 c11)
       have H' := Aside0.mk H
       clear H
       go_wp2
       go_roundg k2
       case measure => have := HJ2.out; have := HK2.out; omega
       case rel => exact ⟨(x5_2 ++ (⟨#[35, 10]⟩ : ByteArray)), (wrap64 (x6_2 + 1)), eqs, eqs, H', ⟨by have := HJ2.out; have := HK2.out; omega⟩, ⟨blw⟩⟩
      ·rw [if_neg c10] at H
       have c10b0 := decide_eq_false c10
       clear c10
       have H' := Aside0.mk H
       clear H
       go_wp2
       go_loopg [5, 7] k2 (fun kq v5 v7 w' => ∃ (x5_3 : ByteArray) (x7_3 : Int), v5 = .string x5_3 ∧ v7 = .int .i64 x7_3 ∧ Aside0 (bulletinlaw48_ScriptMany.l1 kq a0 a1 x5_3 x7_3 = some r) ∧ Aside0 (kq ≤ k2) ∧ Aside0 (Below w.heap.size w w'))
       case atStart => exact ⟨(x5_2), (0), eqs, eqs, H', ⟨Nat.le_refl _⟩, ⟨blw⟩⟩
       case round =>
        clear H'
        try clear c1
        try clear p2
        try clear c3
        try clear c4
        try clear c4b0
        try clear c5
        try clear c5b0
        try clear c6
        try clear c6b0
        try clear p6
        try clear c7
        try clear c10
        try clear c10b0
        try clear c11
        try clear c11b0
        try clear c11b1
        try clear c11b2
        try clear p2
        obtain ⟨x5_3, x7_3, rfl, rfl, HA, HK3, HB⟩ := hrel
        cases gk with
        | zero => exact absurd HA.out (by simp [bulletinlaw48_ScriptMany.l1])
        | succ k3 =>
         have H := HA.out
         clear HA
         simp only [bulletinlaw48_ScriptMany.l1] at H
         by_cases c12 : x7_3 < a0
         ·rw [if_pos c12] at H
          have c12b0 := decide_eq_true c12
          clear c12
          obtain ⟨c13, H⟩ := iteS H
          have c13b0 := eq_true c13
          have c13b1 := decide_eq_true c13
          try have c13b2 := eq_false (Nat.not_lt.2 c13)
          have H' := Aside0.mk H
          clear H
          go_wp2
          go_roundg k3
          case measure => have := HJ2.out; have := HK2.out; have := HK3.out; omega
          case rel => exact ⟨(x5_3 ++ (⟨#[116, 105, 99, 107, 32, 49, 10]⟩ : ByteArray)), (wrap64 (x7_3 + 1)), eqs, eqs, H', ⟨by have := HJ2.out; have := HK2.out; have := HK3.out; omega⟩, ⟨blw⟩⟩
         ·rw [if_neg c12] at H
          have c12b0 := decide_eq_false c12
          clear c12
          replace H := Option.bind_eq_some_iff.mp H
          obtain ⟨⟨t305, t306, t307⟩, A140, H⟩ := H
          try dsimp only at H
          have A14 := Aside0.mk A140
          clear A140
          by_cases c15 : a0 > 200
          ·rw [if_pos c15] at H
           have c15b0 : decide (200 < a0) = true := decide_eq_true c15
           clear c15
           obtain ⟨c16, H⟩ := iteS H
           have c16b0 := beq_iff_eq.mpr c16
           have c16b1 := bne_eq_false_iff_eq.mpr c16
           clear c16
           obtain ⟨c17, H⟩ := iteS H
           have c17b0 := beq_iff_eq.mpr c17
           have c17b1 := bne_eq_false_iff_eq.mpr c17
           clear c17
           obtain ⟨c18, H⟩ := iteS H
           have c18b0 := beq_iff_eq.mpr c18
           have c18b1 := bne_eq_false_iff_eq.mpr c18
           clear c18
           replace H := Option.bind_eq_some_iff.mp H
           obtain ⟨t310, A190, H⟩ := H
           try dsimp only at H
           have A19 := Aside0.mk A190
           clear A190
           obtain rfl := Option.some.inj H
           go_wp2_with (first | ((with_reducible refine gc 7 rfl ?_); refine gl_ (some 42) Tryd.func7 #[.string x5_3] ?_; (with_reducible refine (script_Read.calls k3 x5_3 t305 t306 t307 _ ?side1 A14.out).mono ?_); (case side1 => exact Amb.at HG.out blw); rintro e w20 ⟨v308, rfl, ho0, hb⟩; refine ⟨_, rfl, ?_⟩; have HO309 := Aside0.mk (Kd.R_lower ho0 (below_size blw)); replace HB := Aside0.mk (below_step blw hb); (try clear hb); (try clear ho0); obtain ⟨Ao21, co21, eo21⟩ := Kd.R_slice HO309.out; subst eo21) | (go_at_call 6; (with_reducible refine (bulletinlaw48_works.calls k3  t310 _ ?side1 A19.out).mono ?_); (case side1 => exact Amb.at HG.out blw); rintro e w22 ⟨rfl, hb⟩; replace HO309 := Aside0.mk (Kd.R_below (by (with_reducible repeat (first | apply Kd.R_alloc | apply Kd.R_drewN | apply Kd.R_drew)); exact HO309.out) hb); replace HB := Aside0.mk (below_step blw hb); (try clear hb)))
           go_ret
           exact ⟨by first | rfl | (simp [errW_none, errW_some] <;> rfl) | (simp [*, errW_none, errW_some] <;> rfl), blw⟩
          ·rw [if_neg c15] at H
           have c15b0 : decide (200 < a0) = false := decide_eq_false c15
           clear c15
           obtain ⟨c23, H⟩ := iteS H
           have c23b0 := beq_iff_eq.mpr c23
           have c23b1 := bne_eq_false_iff_eq.mpr c23
           clear c23
           obtain ⟨c24, H⟩ := iteS H
           have c24b0 := beq_iff_eq.mpr c24
           have c24b1 := bne_eq_false_iff_eq.mpr c24
           clear c24
           obtain ⟨c25, H⟩ := iteS H
           have c25b0 := beq_iff_eq.mpr c25
           have c25b1 := bne_eq_false_iff_eq.mpr c25
           clear c25
           replace H := Option.bind_eq_some_iff.mp H
           obtain ⟨t311, A260, H⟩ := H
           try dsimp only at H
           have A26 := Aside0.mk A260
           clear A260
           obtain rfl := Option.some.inj H
           go_wp2_with (first | ((with_reducible refine gc 7 rfl ?_); refine gl_ (some 42) Tryd.func7 #[.string x5_3] ?_; (with_reducible refine (script_Read.calls k3 x5_3 t305 t306 t307 _ ?side1 A14.out).mono ?_); (case side1 => exact Amb.at HG.out blw); rintro e w27 ⟨v308, rfl, ho0, hb⟩; refine ⟨_, rfl, ?_⟩; have HO309 := Aside0.mk (Kd.R_lower ho0 (below_size blw)); replace HB := Aside0.mk (below_step blw hb); (try clear hb); (try clear ho0); obtain ⟨Ao28, co28, eo28⟩ := Kd.R_slice HO309.out; subst eo28) | (go_at_call 6; (with_reducible refine (bulletinlaw48_works.calls k3  t311 _ ?side1 A26.out).mono ?_); (case side1 => exact Amb.at HG.out blw); rintro e w29 ⟨rfl, hb⟩; replace HO309 := Aside0.mk (Kd.R_below (by (with_reducible repeat (first | apply Kd.R_alloc | apply Kd.R_drewN | apply Kd.R_drew)); exact HO309.out) hb); replace HB := Aside0.mk (below_step blw hb); (try clear hb)))
           go_ret
           exact ⟨by first | rfl | (simp [errW_none, errW_some] <;> rfl) | (simp [*, errW_none, errW_some] <;> rfl), blw⟩

/-- THE ONE PURE STATEMENT of bulletinlaw48_ScriptMany: yours. -/
def bulletinlaw48_ScriptMany.Pure : Prop := ∀ (a0 : Int) (a1 : Int), (Lit.int .i64 a0).wf = true → (Lit.int .i64 a1).wf = true → ∃ k, bulletinlaw48_ScriptMany.f k a0 a1 = some true
theorem bulletinlaw48_ScriptMany.walk (P : bulletinlaw48_ScriptMany.Pure) (a0 : Int) (a1 : Int) (w : World) (hG : Amb w) (w0 : (Lit.int .i64 a0).wf = true) (w1 : (Lit.int .i64 a1).wf = true) :
    Calls Tryd.prog 3 #[.int .i64 a0, .int .i64 a1] w fun e w' => e = .returned (.bool true) ∧ Below w.heap.size w w' := by
  obtain ⟨k, h⟩ := P a0 a1 w0 w1
  refine (bulletinlaw48_ScriptMany.calls k a0 a1 true w hG h).mono ?_
  rintro e w' ⟨rfl, hd⟩
  exact ⟨rfl, hd⟩

end Go.Proofs.YtcgfaagadejpmaaDoor.Q
