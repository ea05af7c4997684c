-- Written by a program of this session (wip/myprint) out of the translation, for YtcgfaagadejpmaaDoor.
import Derived.Test.YtcgfaagadejpmaaDoorQ0
import Derived.Test.YtcgfaagadejpmaaDoorQ4
import Derived.Test.YtcgfaagadejpmaaDoorQ13
import Derived.Test.YtcgfaagadejpmaaDoorQ15
namespace Go.Proofs.YtcgfaagadejpmaaDoor.Q
open Go.RowKit Go.Proofs.YtcgfaagadejpmaaDoorW.PrintWords Go.Proofs.YtcgfaagadejpmaaDoorW.PrintLast Go.Proofs.YtcgfaagadejpmaaDoorW.PrintMore Go.Proofs.YtcgfaagadejpmaaDoorW.PrintSq
attribute [local go_sem] max2_int min2_int max_two min_two max_three min_three max_four min_four   -- for this text's walks alone
set_option linter.unusedVariables false
set_option linter.unusedSimpArgs false

/-! ### bulletinlaw48_ScriptEscape: function 5 -/
mutual
def bulletinlaw48_ScriptEscape.j0 : Nat → ByteArray → ByteArray → Bool → Option (Bool)
  | 0, _, _, _ => none
  | k + 1, x0, x1, x22 => if x22 = true then (some true) else ((script_Escape.f x0).bind fun t328 => (bulletinlaw48_ScriptEscape.l0 k x0 x1 t328 (t328.size : Int) 0))
def bulletinlaw48_ScriptEscape.l0 : Nat → ByteArray → ByteArray → ByteArray → Int → Int → Option (Bool)
  | 0, _, _, _, _, _ => none
  | k + 1, x0, x1, x5, x26, x27 => if x27 < x26 then (if 0 ≤ x27 then (if x27 < (x5.size : Int) then (if (bt x5 x27) < 32 then (none) else (if (bt x5 x27) > 126 then (none) else (bulletinlaw48_ScriptEscape.l0 k x0 x1 x5 x26 (wrap64 (x27 + 1))))) else (none)) else (none)) else ((script_Unescape.f k x5).bind fun bt329 => ((script_Unescape.f k x1).bind fun bt331 => ((script_Escape.f bt331.1).bind fun t333 => ((script_Unescape.f k t333).bind fun bt334 => (if bt329.2 = true then (if bt329.1.toList = x0.toList then (if bt334.2 = true then (if bt331.1.toList = bt334.1.toList then (if bt331.2 = true then (some true) else (some (bt331.1.toList == ([] : List UInt8)))) else (none)) else (none)) else (none)) else (none))))))
end
def bulletinlaw48_ScriptEscape.f (k : Nat) (a0 : ByteArray) (a1 : ByteArray) : Option (Bool) := (bulletinlaw48_works.f k).bind fun t327 => (if t327 = true then (if (a0.size : Int) > 1000 then (bulletinlaw48_ScriptEscape.j0 k a0 a1 true) else (bulletinlaw48_ScriptEscape.j0 k a0 a1 (decide ((a1.size : Int) > 1000)))) else (none))
theorem bulletinlaw48_ScriptEscape.mono_l : ∀ k, (∀ y0 y1 y2, LeO (bulletinlaw48_ScriptEscape.j0 k y0 y1 y2) (bulletinlaw48_ScriptEscape.j0 (k + 1) y0 y1 y2)) ∧ (∀ y0 y1 y2 y3 y4, LeO (bulletinlaw48_ScriptEscape.l0 k y0 y1 y2 y3 y4) (bulletinlaw48_ScriptEscape.l0 (k + 1) y0 y1 y2 y3 y4))
  | 0 => ⟨fun _ _ _ r h => by simp [bulletinlaw48_ScriptEscape.j0] at h, fun _ _ _ _ _ r h => by simp [bulletinlaw48_ScriptEscape.l0] at h⟩
  | k + 1 => by
    obtain ⟨ih0, ih1⟩ := bulletinlaw48_ScriptEscape.mono_l k
    refine ⟨?_, ?_⟩
    · intro y0 y1 y2
      unfold bulletinlaw48_ScriptEscape.j0
      repeat' first | (with_reducible first | exact ih0 _ _ _ | exact ih1 _ _ _ _ _ | exact bulletinlaw48_works.mono _ | exact script_Unescape.mono _ _ | exact LeO.refl _ | exact LeO.none _ | refine LeO.ite ?_ ?_ | refine LeO.bind ?_ (fun _ => ?_)) | exact ih0 _ _ _ | exact ih1 _ _ _ _ _ | exact bulletinlaw48_works.mono _ | exact script_Unescape.mono _ _ | exact LeO.none _ | refine LeO.ite ?_ ?_ | refine LeO.bind ?_ (fun _ => ?_)
    · intro y0 y1 y2 y3 y4
      unfold bulletinlaw48_ScriptEscape.l0
      repeat' first | (with_reducible first | exact ih0 _ _ _ | exact ih1 _ _ _ _ _ | exact bulletinlaw48_works.mono _ | exact script_Unescape.mono _ _ | exact LeO.refl _ | exact LeO.none _ | refine LeO.ite ?_ ?_ | refine LeO.bind ?_ (fun _ => ?_)) | exact ih0 _ _ _ | exact ih1 _ _ _ _ _ | exact bulletinlaw48_works.mono _ | exact script_Unescape.mono _ _ | exact LeO.none _ | refine LeO.ite ?_ ?_ | refine LeO.bind ?_ (fun _ => ?_)
theorem bulletinlaw48_ScriptEscape.mono : ∀ a0 a1 k, LeO (bulletinlaw48_ScriptEscape.f k a0 a1) (bulletinlaw48_ScriptEscape.f (k + 1) a0 a1) := by
  intro a0 a1 k
  obtain ⟨ih0, ih1⟩ := bulletinlaw48_ScriptEscape.mono_l k
  unfold bulletinlaw48_ScriptEscape.f
  repeat' first | (with_reducible first | exact ih0 _ _ _ | exact ih1 _ _ _ _ _ | exact bulletinlaw48_works.mono _ | exact script_Unescape.mono _ _ | exact LeO.refl _ | exact LeO.none _ | refine LeO.ite ?_ ?_ | refine LeO.bind ?_ (fun _ => ?_)) | exact ih0 _ _ _ | exact ih1 _ _ _ _ _ | exact bulletinlaw48_works.mono _ | exact script_Unescape.mono _ _ | exact LeO.none _ | refine LeO.ite ?_ ?_ | refine LeO.bind ?_ (fun _ => ?_)
set_option maxHeartbeats 8000000 in
set_option maxRecDepth 100000 in
theorem bulletinlaw48_ScriptEscape.calls (k : Nat) (a0 : ByteArray) (a1 : ByteArray) (r : Bool) (w : World) (hG : Amb w) (h : bulletinlaw48_ScriptEscape.f k a0 a1 = some r) :
    Calls Tryd.prog 5 #[.string a0, .string a1] w fun e w' => e = .returned (.bool r) ∧ Below w.heap.size w w' := by
 have HB := Aside0.mk (Below.refl w.heap.size w)
 unfold bulletinlaw48_ScriptEscape.f at h
 have H := h
 clear h
 have HG := Aside0.mk hG
 clear hG
 replace H := Option.bind_eq_some_iff.mp H
 obtain ⟨t327, A30, H⟩ := H
 try dsimp only at H
 have A3 := Aside0.mk A30
 clear A30
 obtain ⟨rfl, H⟩ := iteS H
 have HC5 := Aside0.mk H
 clear H
 go_enter Tryd.func5, Tryd.ntmps5
 go_upto_region 3 with (first | ((with_reducible refine gc 6 rfl ?_); refine cl_ (some 13) Tryd.func6 (bulletinlaw48_works.calls k  true _ (Amb.at HG.out blw) A3.out) ?_; rintro w6 hb; replace HB := Aside0.mk (below_step blw hb); (try clear hb)))
 (try simp only [Act.put, List.setIfInBounds_toArray, List.set_cons_zero, List.set_cons_succ])
 go_cut [22] (fun v22 wc => ∃ (kq : Nat) (x22_4 : Bool), v22 = .bool x22_4 ∧ Aside0 (bulletinlaw48_ScriptEscape.j0 kq a0 a1 x22_4 = some r) ∧ Aside0 (kq ≤ k) ∧ Aside0 (Below w.heap.size w wc))
 case first =>
  have H := HC5.out
  clear HC5
  by_cases c7 : (a0.size : Int) > 1000
  ·rw [if_pos c7] at H
   have c7b0 : decide (1000 < (a0.size : Int)) = true := decide_eq_true c7
   have c7b1 : decide (1000 < a0.size) = true := decide_eq_true (by omega)
   clear c7
   (first | rw [c7b0] | (simp only [i64_w, i32_w]; rw [c7b0]) | skip)
   have H' := Aside0.mk H
   clear H
   go_wp2
   go_meet
   case rel => exact ⟨_, (true), eqs, H', omk, ⟨blw⟩⟩
  ·rw [if_neg c7] at H
   have c7b0 : decide (1000 < (a0.size : Int)) = false := decide_eq_false c7
   have c7b1 : decide (1000 < a0.size) = false := decide_eq_false (by omega)
   clear c7
   (first | rw [c7b0] | (simp only [i64_w, i32_w]; rw [c7b0]) | skip)
   have H' := Aside0.mk H
   clear H
   go_wp2
   go_meet
   case rel => exact ⟨_, (decide ((a1.size : Int) > 1000)), eqs, H', omk, ⟨blw⟩⟩
 case rest =>
  clear HC5
  try clear p2
  try clear c4
  try clear c5
  try clear c6
  try clear c7
  try clear c7b0
  try clear c7b1
  obtain ⟨kq, x22_4, rfl, HA, HJ4, HB⟩ := hcut
  cases kq with
  | zero => exact absurd HA.out (by simp [bulletinlaw48_ScriptEscape.j0])
  | succ kj4 =>
   have H := HA.out
   clear HA
   simp only [bulletinlaw48_ScriptEscape.j0] at H
   by_cases c8 : x22_4 = true
   ·subst c8
    rw [if_pos rfl] at H
    obtain rfl := Option.some.inj H
    go_wp2
    go_ret
    exact ⟨by first | rfl | (simp [errW_none, errW_some] <;> rfl) | (simp [*, errW_none, errW_some] <;> rfl), blw⟩
   ·replace c8 := Bool.eq_false_iff.mpr c8
    subst c8
    rw [if_neg nft] at H
    replace H := Option.bind_eq_some_iff.mp H
    obtain ⟨t328, A90, H⟩ := H
    try dsimp only at H
    have A9 := Aside0.mk A90
    clear A90
    have H' := Aside0.mk H
    clear H
    go_wp2_with (first | ((with_reducible refine gc 9 rfl ?_); refine cl_ (some 24) Tryd.func9 (script_Escape.calls a0 t328 _ A9.out) ?_; rintro w10 hb; replace HB := Aside0.mk (below_step blw hb); (try clear hb)))
    go_loopg [27] kj4 (fun kq v27 w' => ∃ (x27_2 : Int), v27 = .int .i64 x27_2 ∧ Aside0 (bulletinlaw48_ScriptEscape.l0 kq a0 a1 t328 (t328.size : Int) x27_2 = some r) ∧ Aside0 (kq ≤ kj4) ∧ Aside0 (Below w.heap.size w w'))
    case atStart => exact ⟨(0), eqs, H', ⟨Nat.le_refl _⟩, ⟨blw⟩⟩
    case round =>
     clear H'
     try clear p2
     try clear c4
     try clear c5
     try clear c6
     try clear c7
     try clear c7b0
     try clear c7b1
     try clear c8
     try clear c9
     try clear p2
     obtain ⟨x27_2, rfl, HA, HK2, HB⟩ := hrel
     cases gk with
     | zero => exact absurd HA.out (by simp [bulletinlaw48_ScriptEscape.l0])
     | succ k2 =>
      have H := HA.out
      clear HA
      simp only [bulletinlaw48_ScriptEscape.l0] at H
      by_cases c11 : x27_2 < (t328.size : Int)
      ·rw [if_pos c11] at H
       have c11b0 := decide_eq_true c11
       clear c11
       obtain ⟨c12, H⟩ := iteS H
       have c12b0 := decide_eq_true c12
       clear c12
       obtain ⟨c13, H⟩ := iteS H
       have c13b0 := decide_eq_true c13
       clear c13
       obtain ⟨c15, H⟩ := iteN H
       have c15b0 := decide_eq_false c15
       clear c15
       obtain ⟨c17, H⟩ := iteN H
       have c17b0 : decide (126 < (bt t328 x27_2)) = false := decide_eq_false c17
       clear c17
       have H' := Aside0.mk H
       clear H
       have p14 : 0 ≤ (x27_2 : Int) := od_
       have q14 : x27_2 < (t328.size : Int) := od_
       have hx14 := bt_at t328 x27_2
       replace p14 := eq_true p14
       replace q14 := eq_true q14
       have p16 : 0 ≤ (x27_2 : Int) := od_
       have q16 : x27_2 < (t328.size : Int) := od_
       have hx16 := bt_at t328 x27_2
       replace p16 := eq_true p16
       replace q16 := eq_true q16
       go_wp2
       go_roundg k2
       case measure => have := HJ4.out; have := HK2.out; omega
       case rel => exact ⟨(wrap64 (x27_2 + 1)), eqs, H', ⟨by have := HJ4.out; have := HK2.out; omega⟩, ⟨blw⟩⟩
      ·rw [if_neg c11] at H
       have c11b0 := decide_eq_false c11
       clear c11
       replace H := Option.bind_eq_some_iff.mp H
       obtain ⟨⟨t329, t330⟩, A180, H⟩ := H
       try dsimp only at H
       have A18 := Aside0.mk A180
       clear A180
       replace H := Option.bind_eq_some_iff.mp H
       obtain ⟨⟨t331, t332⟩, A190, H⟩ := H
       try dsimp only at H
       have A19 := Aside0.mk A190
       clear A190
       replace H := Option.bind_eq_some_iff.mp H
       obtain ⟨t333, A200, H⟩ := H
       try dsimp only at H
       have A20 := Aside0.mk A200
       clear A200
       replace H := Option.bind_eq_some_iff.mp H
       obtain ⟨⟨t334, t335⟩, A210, H⟩ := H
       try dsimp only at H
       have A21 := Aside0.mk A210
       clear A210
       obtain ⟨rfl, H⟩ := iteS H
       obtain ⟨c23, H⟩ := iteS H
       have c23b0 := beq_iff_eq.mpr c23
       have c23b1 := bne_eq_false_iff_eq.mpr c23
       clear c23
       obtain ⟨rfl, H⟩ := iteS H
       obtain ⟨c25, H⟩ := iteS H
       have c25b0 := beq_iff_eq.mpr c25
       have c25b1 := bne_eq_false_iff_eq.mpr c25
       clear c25
       by_cases c26 : t332 = true
       ·subst c26
        rw [if_pos rfl] at H
        obtain rfl := Option.some.inj H
        go_wp2_with (first | ((with_reducible refine gc 10 rfl ?_); refine cl_ (some 43) Tryd.func10 (script_Unescape.calls k2 t328 t329 true _ A18.out) ?_; rintro w27 hb; replace HB := Aside0.mk (below_step blw hb); (try clear hb)) | ((with_reducible refine gc 10 rfl ?_); refine cl_ (some 48) Tryd.func10 (script_Unescape.calls k2 a1 t331 true _ A19.out) ?_; rintro w28 hb; replace HB := Aside0.mk (below_step blw hb); (try clear hb)) | ((with_reducible refine gc 9 rfl ?_); refine cl_ (some 53) Tryd.func9 (script_Escape.calls t331 t333 _ A20.out) ?_; rintro w29 hb; replace HB := Aside0.mk (below_step blw hb); (try clear hb)) | ((with_reducible refine gc 10 rfl ?_); refine cl_ (some 54) Tryd.func10 (script_Unescape.calls k2 t333 t334 true _ A21.out) ?_; rintro w30 hb; replace HB := Aside0.mk (below_step blw hb); (try clear hb)))
        go_ret
        exact ⟨by first | rfl | (simp [errW_none, errW_some] <;> rfl) | (simp [*, errW_none, errW_some] <;> rfl), blw⟩
       ·replace c26 := Bool.eq_false_iff.mpr c26
        subst c26
        rw [if_neg nft] at H
        obtain rfl := Option.some.inj H
        go_wp2_with (first | ((with_reducible refine gc 10 rfl ?_); refine cl_ (some 43) Tryd.func10 (script_Unescape.calls k2 t328 t329 true _ A18.out) ?_; rintro w31 hb; replace HB := Aside0.mk (below_step blw hb); (try clear hb)) | ((with_reducible refine gc 10 rfl ?_); refine cl_ (some 48) Tryd.func10 (script_Unescape.calls k2 a1 t331 false _ A19.out) ?_; rintro w32 hb; replace HB := Aside0.mk (below_step blw hb); (try clear hb)) | ((with_reducible refine gc 9 rfl ?_); refine cl_ (some 53) Tryd.func9 (script_Escape.calls t331 t333 _ A20.out) ?_; rintro w33 hb; replace HB := Aside0.mk (below_step blw hb); (try clear hb)) | ((with_reducible refine gc 10 rfl ?_); refine cl_ (some 54) Tryd.func10 (script_Unescape.calls k2 t333 t334 true _ A21.out) ?_; rintro w34 hb; replace HB := Aside0.mk (below_step blw hb); (try clear hb)))
        go_ret
        exact ⟨by first | rfl | (simp [errW_none, errW_some] <;> rfl) | (simp [*, errW_none, errW_some] <;> rfl), blw⟩

/-- THE ONE PURE STATEMENT of bulletinlaw48_ScriptEscape: yours. -/
def bulletinlaw48_ScriptEscape.Pure : Prop := ∀ (a0 : ByteArray) (a1 : ByteArray), a0.size ≤ 140737488351232 → a1.size ≤ 140737488351232 → ∃ k, bulletinlaw48_ScriptEscape.f k a0 a1 = some true
theorem bulletinlaw48_ScriptEscape.walk (P : bulletinlaw48_ScriptEscape.Pure) (a0 : ByteArray) (a1 : ByteArray) (w : World) (hG : Amb w) (w0 : a0.size ≤ 140737488351232) (w1 : a1.size ≤ 140737488351232) :
    Calls Tryd.prog 5 #[.string a0, .string a1] w fun e w' => e = .returned (.bool true) ∧ Below w.heap.size w w' := by
  obtain ⟨k, h⟩ := P a0 a1 w0 w1
  refine (bulletinlaw48_ScriptEscape.calls k a0 a1 true w hG h).mono ?_
  rintro e w' ⟨rfl, hd⟩
  exact ⟨rfl, hd⟩

end Go.Proofs.YtcgfaagadejpmaaDoor.Q
