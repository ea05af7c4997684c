-- Written by a program of this session (wip/myprint) out of the translation, for YtcpmoolpbeeedaaGreatDoor.
import Derived.Test.YtcpmoolpbeeedaaGreatDoorQ0
import Derived.Test.YtcpmoolpbeeedaaGreatDoorQ10
namespace Go.Proofs.YtcpmoolpbeeedaaGreatDoor.Q
open Go.RowKit Go.Proofs.YtcpmoolpbeeedaaGreatDoorW.PrintWords Go.Proofs.YtcpmoolpbeeedaaGreatDoorW.PrintLast Go.Proofs.YtcpmoolpbeeedaaGreatDoorW.PrintMore Go.Proofs.YtcpmoolpbeeedaaGreatDoorW.PrintSq
attribute [local go_sem] max2_int min2_int max_two min_two max_three min_three max_four min_four   -- for this text's walks alone
set_option linter.unusedVariables false
set_option linter.unusedSimpArgs false

/-! ### date_week: function 154 -/
/-- The place of a name among names, letters' case apart; -1: it is none. -/
def date_week.find (s : ByteArray) : List ByteArray → Int → Int
  | [], _ => -1
  | x :: l, i => if ((glyph_Fold.g x).toList == (glyph_Fold.g s).toList) = true then i else date_week.find s l (i + 1)
def date_week.f (a0 : ByteArray) : Option (Int) := if a0.size ≤ 140737488355327 then (some (date_week.find a0 Tab0 0)) else none
set_option maxHeartbeats 8000000 in
set_option maxRecDepth 1000000 in
theorem date_week.walk (s : ByteArray) (w : World) (hs : s.size ≤ 140737488355327) (hG : Amb w) :
    Calls Tryz.prog 154 #[.string s] w fun e w' => e = .returned (.int .i64 (date_week.find s Tab0 0)) ∧ Below w.heap.size w w' := by
  have hc0 : w.cell? ⟨0, 0, none⟩ = some (.string ⟨#[83, 117, 110]⟩) := hG.t0 0 (by decide) (by decide)
  have hc1 : w.cell? ⟨0, 1, none⟩ = some (.string ⟨#[77, 111, 110]⟩) := hG.t0 1 (by decide) (by decide)
  have hc2 : w.cell? ⟨0, 2, none⟩ = some (.string ⟨#[84, 117, 101]⟩) := hG.t0 2 (by decide) (by decide)
  have hc3 : w.cell? ⟨0, 3, none⟩ = some (.string ⟨#[87, 101, 100]⟩) := hG.t0 3 (by decide) (by decide)
  have hc4 : w.cell? ⟨0, 4, none⟩ = some (.string ⟨#[84, 104, 117]⟩) := hG.t0 4 (by decide) (by decide)
  have hc5 : w.cell? ⟨0, 5, none⟩ = some (.string ⟨#[70, 114, 105]⟩) := hG.t0 5 (by decide) (by decide)
  have hc6 : w.cell? ⟨0, 6, none⟩ = some (.string ⟨#[83, 97, 116]⟩) := hG.t0 6 (by decide) (by decide)
  clear hG
  go_enter Tryz.func154, Tryz.ntmps154
  go_wp2_with fail
  refine wp_loop_rounds 8 ?_
  clear hc0 hc1 hc2 hc3 hc4 hc5 hc6
  have ix0 : ∀ w, (Instr.index 70 (.agg #[.string ⟨#[83, 117, 110]⟩, .string ⟨#[77, 111, 110]⟩, .string ⟨#[84, 117, 101]⟩, .string ⟨#[87, 101, 100]⟩, .string ⟨#[84, 104, 117]⟩, .string ⟨#[70, 114, 105]⟩, .string ⟨#[83, 97, 116]⟩]) (.int .i64 0)).run Tryz.prog w = .ok (.string ⟨#[83, 117, 110]⟩) w := fun _ => by kernel_rfl
  rw [rounds_succ]
  go_wp2_with fail
  clear ix0
  refine (glyph_Fold.walk ⟨#[83, 117, 110]⟩ _ (by decide)).mono ?_
  rintro e u0 ⟨rfl, hu0⟩
  go_wp2_with fail
  refine (glyph_Fold.walk s _ hs).mono ?_
  rintro e v0 ⟨rfl, hv0⟩
  have B0 := Aside0.mk (hu0.trans (hv0.mono hu0.size))
  clear hu0 hv0
  by_cases h0 : ((glyph_Fold.g ⟨#[83, 117, 110]⟩).toList == (glyph_Fold.g s).toList) = true
  · go_wp2_with fail
    go_ret
    exact ⟨(fun {a b : Int} (e_ : a = b) => congrArg (fun z => Ending.returned (.int .i64 z)) e_) (by simp only [date_week.find, Tab0]; rw [if_pos h0] <;> rfl), B0.out⟩
  have n0 := Aside0.mk h0
  replace h0 : ((glyph_Fold.g ⟨#[83, 117, 110]⟩).toList == (glyph_Fold.g s).toList) = false := by simpa using h0
  go_wp2_with fail
  clear h0
  have ix1 : ∀ w, (Instr.index 70 (.agg #[.string ⟨#[83, 117, 110]⟩, .string ⟨#[77, 111, 110]⟩, .string ⟨#[84, 117, 101]⟩, .string ⟨#[87, 101, 100]⟩, .string ⟨#[84, 104, 117]⟩, .string ⟨#[70, 114, 105]⟩, .string ⟨#[83, 97, 116]⟩]) (.int .i64 1)).run Tryz.prog w = .ok (.string ⟨#[77, 111, 110]⟩) w := fun _ => by kernel_rfl
  rw [rounds_succ]
  go_wp2_with fail
  clear ix1
  refine (glyph_Fold.walk ⟨#[77, 111, 110]⟩ _ (by decide)).mono ?_
  rintro e u1 ⟨rfl, hu1⟩
  go_wp2_with fail
  refine (glyph_Fold.walk s _ hs).mono ?_
  rintro e v1 ⟨rfl, hv1⟩
  have B1 := Aside0.mk ((B0.out.trans (hu1.mono B0.out.size)).trans (hv1.mono (B0.out.trans (hu1.mono B0.out.size)).size))
  clear hu1 hv1
  by_cases h1 : ((glyph_Fold.g ⟨#[77, 111, 110]⟩).toList == (glyph_Fold.g s).toList) = true
  · go_wp2_with fail
    go_ret
    exact ⟨(fun {a b : Int} (e_ : a = b) => congrArg (fun z => Ending.returned (.int .i64 z)) e_) (by simp only [date_week.find, Tab0]; rw [if_neg n0.out, if_pos h1] <;> rfl), B1.out⟩
  have n1 := Aside0.mk h1
  replace h1 : ((glyph_Fold.g ⟨#[77, 111, 110]⟩).toList == (glyph_Fold.g s).toList) = false := by simpa using h1
  go_wp2_with fail
  clear h1
  have ix2 : ∀ w, (Instr.index 70 (.agg #[.string ⟨#[83, 117, 110]⟩, .string ⟨#[77, 111, 110]⟩, .string ⟨#[84, 117, 101]⟩, .string ⟨#[87, 101, 100]⟩, .string ⟨#[84, 104, 117]⟩, .string ⟨#[70, 114, 105]⟩, .string ⟨#[83, 97, 116]⟩]) (.int .i64 2)).run Tryz.prog w = .ok (.string ⟨#[84, 117, 101]⟩) w := fun _ => by kernel_rfl
  rw [rounds_succ]
  go_wp2_with fail
  clear ix2
  refine (glyph_Fold.walk ⟨#[84, 117, 101]⟩ _ (by decide)).mono ?_
  rintro e u2 ⟨rfl, hu2⟩
  go_wp2_with fail
  refine (glyph_Fold.walk s _ hs).mono ?_
  rintro e v2 ⟨rfl, hv2⟩
  have B2 := Aside0.mk ((B1.out.trans (hu2.mono B1.out.size)).trans (hv2.mono (B1.out.trans (hu2.mono B1.out.size)).size))
  clear hu2 hv2
  by_cases h2 : ((glyph_Fold.g ⟨#[84, 117, 101]⟩).toList == (glyph_Fold.g s).toList) = true
  · go_wp2_with fail
    go_ret
    exact ⟨(fun {a b : Int} (e_ : a = b) => congrArg (fun z => Ending.returned (.int .i64 z)) e_) (by simp only [date_week.find, Tab0]; rw [if_neg n0.out, if_neg n1.out, if_pos h2] <;> rfl), B2.out⟩
  have n2 := Aside0.mk h2
  replace h2 : ((glyph_Fold.g ⟨#[84, 117, 101]⟩).toList == (glyph_Fold.g s).toList) = false := by simpa using h2
  go_wp2_with fail
  clear h2
  have ix3 : ∀ w, (Instr.index 70 (.agg #[.string ⟨#[83, 117, 110]⟩, .string ⟨#[77, 111, 110]⟩, .string ⟨#[84, 117, 101]⟩, .string ⟨#[87, 101, 100]⟩, .string ⟨#[84, 104, 117]⟩, .string ⟨#[70, 114, 105]⟩, .string ⟨#[83, 97, 116]⟩]) (.int .i64 3)).run Tryz.prog w = .ok (.string ⟨#[87, 101, 100]⟩) w := fun _ => by kernel_rfl
  rw [rounds_succ]
  go_wp2_with fail
  clear ix3
  refine (glyph_Fold.walk ⟨#[87, 101, 100]⟩ _ (by decide)).mono ?_
  rintro e u3 ⟨rfl, hu3⟩
  go_wp2_with fail
  refine (glyph_Fold.walk s _ hs).mono ?_
  rintro e v3 ⟨rfl, hv3⟩
  have B3 := Aside0.mk ((B2.out.trans (hu3.mono B2.out.size)).trans (hv3.mono (B2.out.trans (hu3.mono B2.out.size)).size))
  clear hu3 hv3
  by_cases h3 : ((glyph_Fold.g ⟨#[87, 101, 100]⟩).toList == (glyph_Fold.g s).toList) = true
  · go_wp2_with fail
    go_ret
    exact ⟨(fun {a b : Int} (e_ : a = b) => congrArg (fun z => Ending.returned (.int .i64 z)) e_) (by simp only [date_week.find, Tab0]; rw [if_neg n0.out, if_neg n1.out, if_neg n2.out, if_pos h3] <;> rfl), B3.out⟩
  have n3 := Aside0.mk h3
  replace h3 : ((glyph_Fold.g ⟨#[87, 101, 100]⟩).toList == (glyph_Fold.g s).toList) = false := by simpa using h3
  go_wp2_with fail
  clear h3
  have ix4 : ∀ w, (Instr.index 70 (.agg #[.string ⟨#[83, 117, 110]⟩, .string ⟨#[77, 111, 110]⟩, .string ⟨#[84, 117, 101]⟩, .string ⟨#[87, 101, 100]⟩, .string ⟨#[84, 104, 117]⟩, .string ⟨#[70, 114, 105]⟩, .string ⟨#[83, 97, 116]⟩]) (.int .i64 4)).run Tryz.prog w = .ok (.string ⟨#[84, 104, 117]⟩) w := fun _ => by kernel_rfl
  rw [rounds_succ]
  go_wp2_with fail
  clear ix4
  refine (glyph_Fold.walk ⟨#[84, 104, 117]⟩ _ (by decide)).mono ?_
  rintro e u4 ⟨rfl, hu4⟩
  go_wp2_with fail
  refine (glyph_Fold.walk s _ hs).mono ?_
  rintro e v4 ⟨rfl, hv4⟩
  have B4 := Aside0.mk ((B3.out.trans (hu4.mono B3.out.size)).trans (hv4.mono (B3.out.trans (hu4.mono B3.out.size)).size))
  clear hu4 hv4
  by_cases h4 : ((glyph_Fold.g ⟨#[84, 104, 117]⟩).toList == (glyph_Fold.g s).toList) = true
  · go_wp2_with fail
    go_ret
    exact ⟨(fun {a b : Int} (e_ : a = b) => congrArg (fun z => Ending.returned (.int .i64 z)) e_) (by simp only [date_week.find, Tab0]; rw [if_neg n0.out, if_neg n1.out, if_neg n2.out, if_neg n3.out, if_pos h4] <;> rfl), B4.out⟩
  have n4 := Aside0.mk h4
  replace h4 : ((glyph_Fold.g ⟨#[84, 104, 117]⟩).toList == (glyph_Fold.g s).toList) = false := by simpa using h4
  go_wp2_with fail
  clear h4
  have ix5 : ∀ w, (Instr.index 70 (.agg #[.string ⟨#[83, 117, 110]⟩, .string ⟨#[77, 111, 110]⟩, .string ⟨#[84, 117, 101]⟩, .string ⟨#[87, 101, 100]⟩, .string ⟨#[84, 104, 117]⟩, .string ⟨#[70, 114, 105]⟩, .string ⟨#[83, 97, 116]⟩]) (.int .i64 5)).run Tryz.prog w = .ok (.string ⟨#[70, 114, 105]⟩) w := fun _ => by kernel_rfl
  rw [rounds_succ]
  go_wp2_with fail
  clear ix5
  refine (glyph_Fold.walk ⟨#[70, 114, 105]⟩ _ (by decide)).mono ?_
  rintro e u5 ⟨rfl, hu5⟩
  go_wp2_with fail
  refine (glyph_Fold.walk s _ hs).mono ?_
  rintro e v5 ⟨rfl, hv5⟩
  have B5 := Aside0.mk ((B4.out.trans (hu5.mono B4.out.size)).trans (hv5.mono (B4.out.trans (hu5.mono B4.out.size)).size))
  clear hu5 hv5
  by_cases h5 : ((glyph_Fold.g ⟨#[70, 114, 105]⟩).toList == (glyph_Fold.g s).toList) = true
  · go_wp2_with fail
    go_ret
    exact ⟨(fun {a b : Int} (e_ : a = b) => congrArg (fun z => Ending.returned (.int .i64 z)) e_) (by simp only [date_week.find, Tab0]; rw [if_neg n0.out, if_neg n1.out, if_neg n2.out, if_neg n3.out, if_neg n4.out, if_pos h5] <;> rfl), B5.out⟩
  have n5 := Aside0.mk h5
  replace h5 : ((glyph_Fold.g ⟨#[70, 114, 105]⟩).toList == (glyph_Fold.g s).toList) = false := by simpa using h5
  go_wp2_with fail
  clear h5
  have ix6 : ∀ w, (Instr.index 70 (.agg #[.string ⟨#[83, 117, 110]⟩, .string ⟨#[77, 111, 110]⟩, .string ⟨#[84, 117, 101]⟩, .string ⟨#[87, 101, 100]⟩, .string ⟨#[84, 104, 117]⟩, .string ⟨#[70, 114, 105]⟩, .string ⟨#[83, 97, 116]⟩]) (.int .i64 6)).run Tryz.prog w = .ok (.string ⟨#[83, 97, 116]⟩) w := fun _ => by kernel_rfl
  rw [rounds_succ]
  go_wp2_with fail
  clear ix6
  refine (glyph_Fold.walk ⟨#[83, 97, 116]⟩ _ (by decide)).mono ?_
  rintro e u6 ⟨rfl, hu6⟩
  go_wp2_with fail
  refine (glyph_Fold.walk s _ hs).mono ?_
  rintro e v6 ⟨rfl, hv6⟩
  have B6 := Aside0.mk ((B5.out.trans (hu6.mono B5.out.size)).trans (hv6.mono (B5.out.trans (hu6.mono B5.out.size)).size))
  clear hu6 hv6
  by_cases h6 : ((glyph_Fold.g ⟨#[83, 97, 116]⟩).toList == (glyph_Fold.g s).toList) = true
  · go_wp2_with fail
    go_ret
    exact ⟨(fun {a b : Int} (e_ : a = b) => congrArg (fun z => Ending.returned (.int .i64 z)) e_) (by simp only [date_week.find, Tab0]; rw [if_neg n0.out, if_neg n1.out, if_neg n2.out, if_neg n3.out, if_neg n4.out, if_neg n5.out, if_pos h6] <;> rfl), B6.out⟩
  have n6 := Aside0.mk h6
  replace h6 : ((glyph_Fold.g ⟨#[83, 97, 116]⟩).toList == (glyph_Fold.g s).toList) = false := by simpa using h6
  go_wp2_with fail
  clear h6
  rw [rounds_succ]
  go_wp2_with fail
  go_ret
  exact ⟨(fun {a b : Int} (e_ : a = b) => congrArg (fun z => Ending.returned (.int .i64 z)) e_) (by simp only [date_week.find, Tab0]; rw [if_neg n0.out, if_neg n1.out, if_neg n2.out, if_neg n3.out, if_neg n4.out, if_neg n5.out, if_neg n6.out] <;> rfl), B6.out⟩
theorem date_week.calls (a0 : ByteArray) (r : Int) (w : World) (hG : Amb w) (h : date_week.f a0 = some r) :
    Calls Tryz.prog 154 #[.string a0] w fun e w' => e = .returned (.int .i64 r) ∧ Below w.heap.size w w' := by
 unfold date_week.f at h
 by_cases h0 : a0.size ≤ 140737488355327
 ·rw [if_pos h0] at h
  obtain rfl := Option.some.inj h
  exact date_week.walk a0 w h0 hG
 ·rw [if_neg h0] at h
  cases h

/-! ### date_number: function 155 -/
def date_number.l0 : Nat → ByteArray → Int → Int → Int → Int → Int → Option (Int)
  | 0, _, _, _, _, _, _ => none
  | k + 1, x0, x1, x2, x7, x10, x11 => if x11 < x10 then (if 0 ≤ x11 then (if x11 < (x0.size : Int) then (if (bt x0 x11) < 48 then (none) else (if (bt x0 x11) > 57 then (none) else (if x11 = x2 then (none) else (date_number.l0 k x0 x1 x2 (wrap64 ((wrap64 (10 * x7)) + (((bt x0 x11) - 48) % 256))) x10 (wrap64 (x11 + 1)))))) else (none)) else (none)) else (if (x0.size : Int) < x1 then (none) else (some x7))
def date_number.f (k : Nat) (a0 : ByteArray) (a1 : Int) (a2 : Int) : Option (Int) := date_number.l0 k a0 a1 a2 0 (a0.size : Int) 0
theorem date_number.mono_l : ∀ k, (∀ y0 y1 y2 y3 y4 y5, LeO (date_number.l0 k y0 y1 y2 y3 y4 y5) (date_number.l0 (k + 1) y0 y1 y2 y3 y4 y5))
  | 0 => fun _ _ _ _ _ _ r h => by simp [date_number.l0] at h
  | k + 1 => by
    have ih0 := date_number.mono_l k
    · intro y0 y1 y2 y3 y4 y5
      unfold date_number.l0
      repeat' first | (with_reducible first | exact ih0 _ _ _ _ _ _ | exact LeO.refl _ | exact LeO.none _ | refine LeO.ite ?_ ?_ | refine LeO.bind ?_ (fun _ => ?_)) | exact ih0 _ _ _ _ _ _ | exact LeO.none _ | refine LeO.ite ?_ ?_ | refine LeO.bind ?_ (fun _ => ?_)
theorem date_number.mono : ∀ a0 a1 a2 k, LeO (date_number.f k a0 a1 a2) (date_number.f (k + 1) a0 a1 a2) := by
  intro a0 a1 a2 k
  have ih0 := date_number.mono_l k
  unfold date_number.f
  repeat' first | (with_reducible first | exact ih0 _ _ _ _ _ _ | exact LeO.refl _ | exact LeO.none _ | refine LeO.ite ?_ ?_ | refine LeO.bind ?_ (fun _ => ?_)) | exact ih0 _ _ _ _ _ _ | exact LeO.none _ | refine LeO.ite ?_ ?_ | refine LeO.bind ?_ (fun _ => ?_)
set_option maxHeartbeats 8000000 in
set_option maxRecDepth 100000 in
theorem date_number.calls (k : Nat) (a0 : ByteArray) (a1 : Int) (a2 : Int) (r : Int) (w : World) (h : date_number.f k a0 a1 a2 = some r) :
    Calls Tryz.prog 155 #[.string a0, .int .i64 a1, .int .i64 a2] w fun e w' => e = .returned (.int .i64 r) ∧ Drawn0 w w' := by
 unfold date_number.f at h
 have H := h
 clear h
 have H' := Aside0.mk H
 clear H
 go_enter Tryz.func155, Tryz.ntmps155
 go_wp2
 go_loopg [7, 11] k (fun kq v7 v11 w' => ∃ (x7_1 : Int) (x11_1 : Int), v7 = .int .i64 x7_1 ∧ v11 = .int .i64 x11_1 ∧ Aside0 (date_number.l0 kq a0 a1 a2 x7_1 (a0.size : Int) x11_1 = some r) ∧ Aside0 (kq ≤ k) ∧ Drawn0 w w')
 case atStart => exact ⟨(0), (0), eqs, eqs, H', ⟨Nat.le_refl _⟩, drw⟩
 case round =>
  clear H'
  try clear c1
  try clear p2
  obtain ⟨x7_1, x11_1, rfl, rfl, HA, HK1, ⟨m1, rfl⟩⟩ := hrel
  cases gk with
  | zero => exact absurd HA.out (by simp [date_number.l0])
  | succ k1 =>
   have H := HA.out
   clear HA
   simp only [date_number.l0] at H
   by_cases c4 : x11_1 < (a0.size : Int)
   ·rw [if_pos c4] at H
    have c4b0 := decide_eq_true c4
    clear c4
    obtain ⟨c5, H⟩ := iteS H
    have c5b0 := decide_eq_true c5
    clear c5
    obtain ⟨c6, H⟩ := iteS H
    have c6b0 := decide_eq_true c6
    clear c6
    obtain ⟨c8, H⟩ := iteN H
    have c8b0 := decide_eq_false c8
    clear c8
    obtain ⟨c10, H⟩ := iteN H
    have c10b0 : decide (57 < (bt a0 x11_1)) = false := decide_eq_false c10
    clear c10
    obtain ⟨c11, H⟩ := iteN H
    have c11b0 := beq_eq_false_iff_ne.mpr c11
    have c11b1 := bne_iff_ne.mpr c11
    have H' := Aside0.mk H
    clear H
    have p7 : 0 ≤ (x11_1 : Int) := od_
    have q7 : x11_1 < (a0.size : Int) := od_
    have hx7 := bt_at a0 x11_1
    replace p7 := eq_true p7
    replace q7 := eq_true q7
    have p9 : 0 ≤ (x11_1 : Int) := od_
    have q9 : x11_1 < (a0.size : Int) := od_
    have hx9 := bt_at a0 x11_1
    replace p9 := eq_true p9
    replace q9 := eq_true q9
    have p12 : 0 ≤ (x11_1 : Int) := od_
    have q12 : x11_1 < (a0.size : Int) := od_
    have hx12 := bt_at a0 x11_1
    replace p12 := eq_true p12
    replace q12 := eq_true q12
    go_wp2
    go_roundg k1
    case measure => have := HK1.out; omega
    case rel => exact ⟨(wrap64 ((wrap64 (10 * x7_1)) + (((bt a0 x11_1) - 48) % 256))), (wrap64 (x11_1 + 1)), eqs, eqs, H', ⟨by have := HK1.out; omega⟩, drw⟩
   ·rw [if_neg c4] at H
    have c4b0 := decide_eq_false c4
    clear c4
    obtain ⟨c13, H⟩ := iteN H
    have c13b0 := decide_eq_false c13
    clear c13
    obtain rfl := Option.some.inj H
    go_wp2
    go_ret
    exact ⟨eqs, drw⟩

/-! ### date_month: function 156 -/
/-- The place of a name among names, letters' case apart; 0: it is none. -/
def date_month.find (s : ByteArray) : List ByteArray → Int → Int
  | [], _ => 0
  | x :: l, i => if ((glyph_Fold.g x).toList == (glyph_Fold.g s).toList) = true then i else date_month.find s l (i + 1)
def date_month.f (a0 : ByteArray) : Option (Int) := if a0.size ≤ 140737488355327 then (some (date_month.find a0 Tab1 1)) else none
set_option maxHeartbeats 8000000 in
set_option maxRecDepth 1000000 in
theorem date_month.walk (s : ByteArray) (w : World) (hs : s.size ≤ 140737488355327) (hG : Amb w) :
    Calls Tryz.prog 156 #[.string s] w fun e w' => e = .returned (.int .i64 (date_month.find s Tab1 1)) ∧ Below w.heap.size w w' := by
  have hc0 : w.cell? ⟨1, 0, none⟩ = some (.string ⟨#[74, 97, 110]⟩) := hG.t1 0 (by decide) (by decide)
  have hc1 : w.cell? ⟨1, 1, none⟩ = some (.string ⟨#[70, 101, 98]⟩) := hG.t1 1 (by decide) (by decide)
  have hc2 : w.cell? ⟨1, 2, none⟩ = some (.string ⟨#[77, 97, 114]⟩) := hG.t1 2 (by decide) (by decide)
  have hc3 : w.cell? ⟨1, 3, none⟩ = some (.string ⟨#[65, 112, 114]⟩) := hG.t1 3 (by decide) (by decide)
  have hc4 : w.cell? ⟨1, 4, none⟩ = some (.string ⟨#[77, 97, 121]⟩) := hG.t1 4 (by decide) (by decide)
  have hc5 : w.cell? ⟨1, 5, none⟩ = some (.string ⟨#[74, 117, 110]⟩) := hG.t1 5 (by decide) (by decide)
  have hc6 : w.cell? ⟨1, 6, none⟩ = some (.string ⟨#[74, 117, 108]⟩) := hG.t1 6 (by decide) (by decide)
  have hc7 : w.cell? ⟨1, 7, none⟩ = some (.string ⟨#[65, 117, 103]⟩) := hG.t1 7 (by decide) (by decide)
  have hc8 : w.cell? ⟨1, 8, none⟩ = some (.string ⟨#[83, 101, 112]⟩) := hG.t1 8 (by decide) (by decide)
  have hc9 : w.cell? ⟨1, 9, none⟩ = some (.string ⟨#[79, 99, 116]⟩) := hG.t1 9 (by decide) (by decide)
  have hc10 : w.cell? ⟨1, 10, none⟩ = some (.string ⟨#[78, 111, 118]⟩) := hG.t1 10 (by decide) (by decide)
  have hc11 : w.cell? ⟨1, 11, none⟩ = some (.string ⟨#[68, 101, 99]⟩) := hG.t1 11 (by decide) (by decide)
  clear hG
  go_enter Tryz.func156, Tryz.ntmps156
  go_wp2_with fail
  refine wp_loop_rounds 13 ?_
  clear hc0 hc1 hc2 hc3 hc4 hc5 hc6 hc7 hc8 hc9 hc10 hc11
  have ix0 : ∀ w, (Instr.index 71 (.agg #[.string ⟨#[74, 97, 110]⟩, .string ⟨#[70, 101, 98]⟩, .string ⟨#[77, 97, 114]⟩, .string ⟨#[65, 112, 114]⟩, .string ⟨#[77, 97, 121]⟩, .string ⟨#[74, 117, 110]⟩, .string ⟨#[74, 117, 108]⟩, .string ⟨#[65, 117, 103]⟩, .string ⟨#[83, 101, 112]⟩, .string ⟨#[79, 99, 116]⟩, .string ⟨#[78, 111, 118]⟩, .string ⟨#[68, 101, 99]⟩]) (.int .i64 0)).run Tryz.prog w = .ok (.string ⟨#[74, 97, 110]⟩) w := fun _ => by kernel_rfl
  rw [rounds_succ]
  go_wp2_with fail
  clear ix0
  refine (glyph_Fold.walk ⟨#[74, 97, 110]⟩ _ (by decide)).mono ?_
  rintro e u0 ⟨rfl, hu0⟩
  go_wp2_with fail
  refine (glyph_Fold.walk s _ hs).mono ?_
  rintro e v0 ⟨rfl, hv0⟩
  have B0 := Aside0.mk (hu0.trans (hv0.mono hu0.size))
  clear hu0 hv0
  by_cases h0 : ((glyph_Fold.g ⟨#[74, 97, 110]⟩).toList == (glyph_Fold.g s).toList) = true
  · go_wp2_with fail
    go_ret
    exact ⟨(fun {a b : Int} (e_ : a = b) => congrArg (fun z => Ending.returned (.int .i64 z)) e_) (by simp only [date_month.find, Tab1]; rw [if_pos h0] <;> rfl), B0.out⟩
  have n0 := Aside0.mk h0
  replace h0 : ((glyph_Fold.g ⟨#[74, 97, 110]⟩).toList == (glyph_Fold.g s).toList) = false := by simpa using h0
  go_wp2_with fail
  clear h0
  have ix1 : ∀ w, (Instr.index 71 (.agg #[.string ⟨#[74, 97, 110]⟩, .string ⟨#[70, 101, 98]⟩, .string ⟨#[77, 97, 114]⟩, .string ⟨#[65, 112, 114]⟩, .string ⟨#[77, 97, 121]⟩, .string ⟨#[74, 117, 110]⟩, .string ⟨#[74, 117, 108]⟩, .string ⟨#[65, 117, 103]⟩, .string ⟨#[83, 101, 112]⟩, .string ⟨#[79, 99, 116]⟩, .string ⟨#[78, 111, 118]⟩, .string ⟨#[68, 101, 99]⟩]) (.int .i64 1)).run Tryz.prog w = .ok (.string ⟨#[70, 101, 98]⟩) w := fun _ => by kernel_rfl
  rw [rounds_succ]
  go_wp2_with fail
  clear ix1
  refine (glyph_Fold.walk ⟨#[70, 101, 98]⟩ _ (by decide)).mono ?_
  rintro e u1 ⟨rfl, hu1⟩
  go_wp2_with fail
  refine (glyph_Fold.walk s _ hs).mono ?_
  rintro e v1 ⟨rfl, hv1⟩
  have B1 := Aside0.mk ((B0.out.trans (hu1.mono B0.out.size)).trans (hv1.mono (B0.out.trans (hu1.mono B0.out.size)).size))
  clear hu1 hv1
  by_cases h1 : ((glyph_Fold.g ⟨#[70, 101, 98]⟩).toList == (glyph_Fold.g s).toList) = true
  · go_wp2_with fail
    go_ret
    exact ⟨(fun {a b : Int} (e_ : a = b) => congrArg (fun z => Ending.returned (.int .i64 z)) e_) (by simp only [date_month.find, Tab1]; rw [if_neg n0.out, if_pos h1] <;> rfl), B1.out⟩
  have n1 := Aside0.mk h1
  replace h1 : ((glyph_Fold.g ⟨#[70, 101, 98]⟩).toList == (glyph_Fold.g s).toList) = false := by simpa using h1
  go_wp2_with fail
  clear h1
  have ix2 : ∀ w, (Instr.index 71 (.agg #[.string ⟨#[74, 97, 110]⟩, .string ⟨#[70, 101, 98]⟩, .string ⟨#[77, 97, 114]⟩, .string ⟨#[65, 112, 114]⟩, .string ⟨#[77, 97, 121]⟩, .string ⟨#[74, 117, 110]⟩, .string ⟨#[74, 117, 108]⟩, .string ⟨#[65, 117, 103]⟩, .string ⟨#[83, 101, 112]⟩, .string ⟨#[79, 99, 116]⟩, .string ⟨#[78, 111, 118]⟩, .string ⟨#[68, 101, 99]⟩]) (.int .i64 2)).run Tryz.prog w = .ok (.string ⟨#[77, 97, 114]⟩) w := fun _ => by kernel_rfl
  rw [rounds_succ]
  go_wp2_with fail
  clear ix2
  refine (glyph_Fold.walk ⟨#[77, 97, 114]⟩ _ (by decide)).mono ?_
  rintro e u2 ⟨rfl, hu2⟩
  go_wp2_with fail
  refine (glyph_Fold.walk s _ hs).mono ?_
  rintro e v2 ⟨rfl, hv2⟩
  have B2 := Aside0.mk ((B1.out.trans (hu2.mono B1.out.size)).trans (hv2.mono (B1.out.trans (hu2.mono B1.out.size)).size))
  clear hu2 hv2
  by_cases h2 : ((glyph_Fold.g ⟨#[77, 97, 114]⟩).toList == (glyph_Fold.g s).toList) = true
  · go_wp2_with fail
    go_ret
    exact ⟨(fun {a b : Int} (e_ : a = b) => congrArg (fun z => Ending.returned (.int .i64 z)) e_) (by simp only [date_month.find, Tab1]; rw [if_neg n0.out, if_neg n1.out, if_pos h2] <;> rfl), B2.out⟩
  have n2 := Aside0.mk h2
  replace h2 : ((glyph_Fold.g ⟨#[77, 97, 114]⟩).toList == (glyph_Fold.g s).toList) = false := by simpa using h2
  go_wp2_with fail
  clear h2
  have ix3 : ∀ w, (Instr.index 71 (.agg #[.string ⟨#[74, 97, 110]⟩, .string ⟨#[70, 101, 98]⟩, .string ⟨#[77, 97, 114]⟩, .string ⟨#[65, 112, 114]⟩, .string ⟨#[77, 97, 121]⟩, .string ⟨#[74, 117, 110]⟩, .string ⟨#[74, 117, 108]⟩, .string ⟨#[65, 117, 103]⟩, .string ⟨#[83, 101, 112]⟩, .string ⟨#[79, 99, 116]⟩, .string ⟨#[78, 111, 118]⟩, .string ⟨#[68, 101, 99]⟩]) (.int .i64 3)).run Tryz.prog w = .ok (.string ⟨#[65, 112, 114]⟩) w := fun _ => by kernel_rfl
  rw [rounds_succ]
  go_wp2_with fail
  clear ix3
  refine (glyph_Fold.walk ⟨#[65, 112, 114]⟩ _ (by decide)).mono ?_
  rintro e u3 ⟨rfl, hu3⟩
  go_wp2_with fail
  refine (glyph_Fold.walk s _ hs).mono ?_
  rintro e v3 ⟨rfl, hv3⟩
  have B3 := Aside0.mk ((B2.out.trans (hu3.mono B2.out.size)).trans (hv3.mono (B2.out.trans (hu3.mono B2.out.size)).size))
  clear hu3 hv3
  by_cases h3 : ((glyph_Fold.g ⟨#[65, 112, 114]⟩).toList == (glyph_Fold.g s).toList) = true
  · go_wp2_with fail
    go_ret
    exact ⟨(fun {a b : Int} (e_ : a = b) => congrArg (fun z => Ending.returned (.int .i64 z)) e_) (by simp only [date_month.find, Tab1]; rw [if_neg n0.out, if_neg n1.out, if_neg n2.out, if_pos h3] <;> rfl), B3.out⟩
  have n3 := Aside0.mk h3
  replace h3 : ((glyph_Fold.g ⟨#[65, 112, 114]⟩).toList == (glyph_Fold.g s).toList) = false := by simpa using h3
  go_wp2_with fail
  clear h3
  have ix4 : ∀ w, (Instr.index 71 (.agg #[.string ⟨#[74, 97, 110]⟩, .string ⟨#[70, 101, 98]⟩, .string ⟨#[77, 97, 114]⟩, .string ⟨#[65, 112, 114]⟩, .string ⟨#[77, 97, 121]⟩, .string ⟨#[74, 117, 110]⟩, .string ⟨#[74, 117, 108]⟩, .string ⟨#[65, 117, 103]⟩, .string ⟨#[83, 101, 112]⟩, .string ⟨#[79, 99, 116]⟩, .string ⟨#[78, 111, 118]⟩, .string ⟨#[68, 101, 99]⟩]) (.int .i64 4)).run Tryz.prog w = .ok (.string ⟨#[77, 97, 121]⟩) w := fun _ => by kernel_rfl
  rw [rounds_succ]
  go_wp2_with fail
  clear ix4
  refine (glyph_Fold.walk ⟨#[77, 97, 121]⟩ _ (by decide)).mono ?_
  rintro e u4 ⟨rfl, hu4⟩
  go_wp2_with fail
  refine (glyph_Fold.walk s _ hs).mono ?_
  rintro e v4 ⟨rfl, hv4⟩
  have B4 := Aside0.mk ((B3.out.trans (hu4.mono B3.out.size)).trans (hv4.mono (B3.out.trans (hu4.mono B3.out.size)).size))
  clear hu4 hv4
  by_cases h4 : ((glyph_Fold.g ⟨#[77, 97, 121]⟩).toList == (glyph_Fold.g s).toList) = true
  · go_wp2_with fail
    go_ret
    exact ⟨(fun {a b : Int} (e_ : a = b) => congrArg (fun z => Ending.returned (.int .i64 z)) e_) (by simp only [date_month.find, Tab1]; rw [if_neg n0.out, if_neg n1.out, if_neg n2.out, if_neg n3.out, if_pos h4] <;> rfl), B4.out⟩
  have n4 := Aside0.mk h4
  replace h4 : ((glyph_Fold.g ⟨#[77, 97, 121]⟩).toList == (glyph_Fold.g s).toList) = false := by simpa using h4
  go_wp2_with fail
  clear h4
  have ix5 : ∀ w, (Instr.index 71 (.agg #[.string ⟨#[74, 97, 110]⟩, .string ⟨#[70, 101, 98]⟩, .string ⟨#[77, 97, 114]⟩, .string ⟨#[65, 112, 114]⟩, .string ⟨#[77, 97, 121]⟩, .string ⟨#[74, 117, 110]⟩, .string ⟨#[74, 117, 108]⟩, .string ⟨#[65, 117, 103]⟩, .string ⟨#[83, 101, 112]⟩, .string ⟨#[79, 99, 116]⟩, .string ⟨#[78, 111, 118]⟩, .string ⟨#[68, 101, 99]⟩]) (.int .i64 5)).run Tryz.prog w = .ok (.string ⟨#[74, 117, 110]⟩) w := fun _ => by kernel_rfl
  rw [rounds_succ]
  go_wp2_with fail
  clear ix5
  refine (glyph_Fold.walk ⟨#[74, 117, 110]⟩ _ (by decide)).mono ?_
  rintro e u5 ⟨rfl, hu5⟩
  go_wp2_with fail
  refine (glyph_Fold.walk s _ hs).mono ?_
  rintro e v5 ⟨rfl, hv5⟩
  have B5 := Aside0.mk ((B4.out.trans (hu5.mono B4.out.size)).trans (hv5.mono (B4.out.trans (hu5.mono B4.out.size)).size))
  clear hu5 hv5
  by_cases h5 : ((glyph_Fold.g ⟨#[74, 117, 110]⟩).toList == (glyph_Fold.g s).toList) = true
  · go_wp2_with fail
    go_ret
    exact ⟨(fun {a b : Int} (e_ : a = b) => congrArg (fun z => Ending.returned (.int .i64 z)) e_) (by simp only [date_month.find, Tab1]; rw [if_neg n0.out, if_neg n1.out, if_neg n2.out, if_neg n3.out, if_neg n4.out, if_pos h5] <;> rfl), B5.out⟩
  have n5 := Aside0.mk h5
  replace h5 : ((glyph_Fold.g ⟨#[74, 117, 110]⟩).toList == (glyph_Fold.g s).toList) = false := by simpa using h5
  go_wp2_with fail
  clear h5
  have ix6 : ∀ w, (Instr.index 71 (.agg #[.string ⟨#[74, 97, 110]⟩, .string ⟨#[70, 101, 98]⟩, .string ⟨#[77, 97, 114]⟩, .string ⟨#[65, 112, 114]⟩, .string ⟨#[77, 97, 121]⟩, .string ⟨#[74, 117, 110]⟩, .string ⟨#[74, 117, 108]⟩, .string ⟨#[65, 117, 103]⟩, .string ⟨#[83, 101, 112]⟩, .string ⟨#[79, 99, 116]⟩, .string ⟨#[78, 111, 118]⟩, .string ⟨#[68, 101, 99]⟩]) (.int .i64 6)).run Tryz.prog w = .ok (.string ⟨#[74, 117, 108]⟩) w := fun _ => by kernel_rfl
  rw [rounds_succ]
  go_wp2_with fail
  clear ix6
  refine (glyph_Fold.walk ⟨#[74, 117, 108]⟩ _ (by decide)).mono ?_
  rintro e u6 ⟨rfl, hu6⟩
  go_wp2_with fail
  refine (glyph_Fold.walk s _ hs).mono ?_
  rintro e v6 ⟨rfl, hv6⟩
  have B6 := Aside0.mk ((B5.out.trans (hu6.mono B5.out.size)).trans (hv6.mono (B5.out.trans (hu6.mono B5.out.size)).size))
  clear hu6 hv6
  by_cases h6 : ((glyph_Fold.g ⟨#[74, 117, 108]⟩).toList == (glyph_Fold.g s).toList) = true
  · go_wp2_with fail
    go_ret
    exact ⟨(fun {a b : Int} (e_ : a = b) => congrArg (fun z => Ending.returned (.int .i64 z)) e_) (by simp only [date_month.find, Tab1]; rw [if_neg n0.out, if_neg n1.out, if_neg n2.out, if_neg n3.out, if_neg n4.out, if_neg n5.out, if_pos h6] <;> rfl), B6.out⟩
  have n6 := Aside0.mk h6
  replace h6 : ((glyph_Fold.g ⟨#[74, 117, 108]⟩).toList == (glyph_Fold.g s).toList) = false := by simpa using h6
  go_wp2_with fail
  clear h6
  have ix7 : ∀ w, (Instr.index 71 (.agg #[.string ⟨#[74, 97, 110]⟩, .string ⟨#[70, 101, 98]⟩, .string ⟨#[77, 97, 114]⟩, .string ⟨#[65, 112, 114]⟩, .string ⟨#[77, 97, 121]⟩, .string ⟨#[74, 117, 110]⟩, .string ⟨#[74, 117, 108]⟩, .string ⟨#[65, 117, 103]⟩, .string ⟨#[83, 101, 112]⟩, .string ⟨#[79, 99, 116]⟩, .string ⟨#[78, 111, 118]⟩, .string ⟨#[68, 101, 99]⟩]) (.int .i64 7)).run Tryz.prog w = .ok (.string ⟨#[65, 117, 103]⟩) w := fun _ => by kernel_rfl
  rw [rounds_succ]
  go_wp2_with fail
  clear ix7
  refine (glyph_Fold.walk ⟨#[65, 117, 103]⟩ _ (by decide)).mono ?_
  rintro e u7 ⟨rfl, hu7⟩
  go_wp2_with fail
  refine (glyph_Fold.walk s _ hs).mono ?_
  rintro e v7 ⟨rfl, hv7⟩
  have B7 := Aside0.mk ((B6.out.trans (hu7.mono B6.out.size)).trans (hv7.mono (B6.out.trans (hu7.mono B6.out.size)).size))
  clear hu7 hv7
  by_cases h7 : ((glyph_Fold.g ⟨#[65, 117, 103]⟩).toList == (glyph_Fold.g s).toList) = true
  · go_wp2_with fail
    go_ret
    exact ⟨(fun {a b : Int} (e_ : a = b) => congrArg (fun z => Ending.returned (.int .i64 z)) e_) (by simp only [date_month.find, Tab1]; rw [if_neg n0.out, if_neg n1.out, if_neg n2.out, if_neg n3.out, if_neg n4.out, if_neg n5.out, if_neg n6.out, if_pos h7] <;> rfl), B7.out⟩
  have n7 := Aside0.mk h7
  replace h7 : ((glyph_Fold.g ⟨#[65, 117, 103]⟩).toList == (glyph_Fold.g s).toList) = false := by simpa using h7
  go_wp2_with fail
  clear h7
  have ix8 : ∀ w, (Instr.index 71 (.agg #[.string ⟨#[74, 97, 110]⟩, .string ⟨#[70, 101, 98]⟩, .string ⟨#[77, 97, 114]⟩, .string ⟨#[65, 112, 114]⟩, .string ⟨#[77, 97, 121]⟩, .string ⟨#[74, 117, 110]⟩, .string ⟨#[74, 117, 108]⟩, .string ⟨#[65, 117, 103]⟩, .string ⟨#[83, 101, 112]⟩, .string ⟨#[79, 99, 116]⟩, .string ⟨#[78, 111, 118]⟩, .string ⟨#[68, 101, 99]⟩]) (.int .i64 8)).run Tryz.prog w = .ok (.string ⟨#[83, 101, 112]⟩) w := fun _ => by kernel_rfl
  rw [rounds_succ]
  go_wp2_with fail
  clear ix8
  refine (glyph_Fold.walk ⟨#[83, 101, 112]⟩ _ (by decide)).mono ?_
  rintro e u8 ⟨rfl, hu8⟩
  go_wp2_with fail
  refine (glyph_Fold.walk s _ hs).mono ?_
  rintro e v8 ⟨rfl, hv8⟩
  have B8 := Aside0.mk ((B7.out.trans (hu8.mono B7.out.size)).trans (hv8.mono (B7.out.trans (hu8.mono B7.out.size)).size))
  clear hu8 hv8
  by_cases h8 : ((glyph_Fold.g ⟨#[83, 101, 112]⟩).toList == (glyph_Fold.g s).toList) = true
  · go_wp2_with fail
    go_ret
    exact ⟨(fun {a b : Int} (e_ : a = b) => congrArg (fun z => Ending.returned (.int .i64 z)) e_) (by simp only [date_month.find, Tab1]; rw [if_neg n0.out, if_neg n1.out, if_neg n2.out, if_neg n3.out, if_neg n4.out, if_neg n5.out, if_neg n6.out, if_neg n7.out, if_pos h8] <;> rfl), B8.out⟩
  have n8 := Aside0.mk h8
  replace h8 : ((glyph_Fold.g ⟨#[83, 101, 112]⟩).toList == (glyph_Fold.g s).toList) = false := by simpa using h8
  go_wp2_with fail
  clear h8
  have ix9 : ∀ w, (Instr.index 71 (.agg #[.string ⟨#[74, 97, 110]⟩, .string ⟨#[70, 101, 98]⟩, .string ⟨#[77, 97, 114]⟩, .string ⟨#[65, 112, 114]⟩, .string ⟨#[77, 97, 121]⟩, .string ⟨#[74, 117, 110]⟩, .string ⟨#[74, 117, 108]⟩, .string ⟨#[65, 117, 103]⟩, .string ⟨#[83, 101, 112]⟩, .string ⟨#[79, 99, 116]⟩, .string ⟨#[78, 111, 118]⟩, .string ⟨#[68, 101, 99]⟩]) (.int .i64 9)).run Tryz.prog w = .ok (.string ⟨#[79, 99, 116]⟩) w := fun _ => by kernel_rfl
  rw [rounds_succ]
  go_wp2_with fail
  clear ix9
  refine (glyph_Fold.walk ⟨#[79, 99, 116]⟩ _ (by decide)).mono ?_
  rintro e u9 ⟨rfl, hu9⟩
  go_wp2_with fail
  refine (glyph_Fold.walk s _ hs).mono ?_
  rintro e v9 ⟨rfl, hv9⟩
  have B9 := Aside0.mk ((B8.out.trans (hu9.mono B8.out.size)).trans (hv9.mono (B8.out.trans (hu9.mono B8.out.size)).size))
  clear hu9 hv9
  by_cases h9 : ((glyph_Fold.g ⟨#[79, 99, 116]⟩).toList == (glyph_Fold.g s).toList) = true
  · go_wp2_with fail
    go_ret
    exact ⟨(fun {a b : Int} (e_ : a = b) => congrArg (fun z => Ending.returned (.int .i64 z)) e_) (by simp only [date_month.find, Tab1]; rw [if_neg n0.out, if_neg n1.out, if_neg n2.out, if_neg n3.out, if_neg n4.out, if_neg n5.out, if_neg n6.out, if_neg n7.out, if_neg n8.out, if_pos h9] <;> rfl), B9.out⟩
  have n9 := Aside0.mk h9
  replace h9 : ((glyph_Fold.g ⟨#[79, 99, 116]⟩).toList == (glyph_Fold.g s).toList) = false := by simpa using h9
  go_wp2_with fail
  clear h9
  have ix10 : ∀ w, (Instr.index 71 (.agg #[.string ⟨#[74, 97, 110]⟩, .string ⟨#[70, 101, 98]⟩, .string ⟨#[77, 97, 114]⟩, .string ⟨#[65, 112, 114]⟩, .string ⟨#[77, 97, 121]⟩, .string ⟨#[74, 117, 110]⟩, .string ⟨#[74, 117, 108]⟩, .string ⟨#[65, 117, 103]⟩, .string ⟨#[83, 101, 112]⟩, .string ⟨#[79, 99, 116]⟩, .string ⟨#[78, 111, 118]⟩, .string ⟨#[68, 101, 99]⟩]) (.int .i64 10)).run Tryz.prog w = .ok (.string ⟨#[78, 111, 118]⟩) w := fun _ => by kernel_rfl
  rw [rounds_succ]
  go_wp2_with fail
  clear ix10
  refine (glyph_Fold.walk ⟨#[78, 111, 118]⟩ _ (by decide)).mono ?_
  rintro e u10 ⟨rfl, hu10⟩
  go_wp2_with fail
  refine (glyph_Fold.walk s _ hs).mono ?_
  rintro e v10 ⟨rfl, hv10⟩
  have B10 := Aside0.mk ((B9.out.trans (hu10.mono B9.out.size)).trans (hv10.mono (B9.out.trans (hu10.mono B9.out.size)).size))
  clear hu10 hv10
  by_cases h10 : ((glyph_Fold.g ⟨#[78, 111, 118]⟩).toList == (glyph_Fold.g s).toList) = true
  · go_wp2_with fail
    go_ret
    exact ⟨(fun {a b : Int} (e_ : a = b) => congrArg (fun z => Ending.returned (.int .i64 z)) e_) (by simp only [date_month.find, Tab1]; rw [if_neg n0.out, if_neg n1.out, if_neg n2.out, if_neg n3.out, if_neg n4.out, if_neg n5.out, if_neg n6.out, if_neg n7.out, if_neg n8.out, if_neg n9.out, if_pos h10] <;> rfl), B10.out⟩
  have n10 := Aside0.mk h10
  replace h10 : ((glyph_Fold.g ⟨#[78, 111, 118]⟩).toList == (glyph_Fold.g s).toList) = false := by simpa using h10
  go_wp2_with fail
  clear h10
  have ix11 : ∀ w, (Instr.index 71 (.agg #[.string ⟨#[74, 97, 110]⟩, .string ⟨#[70, 101, 98]⟩, .string ⟨#[77, 97, 114]⟩, .string ⟨#[65, 112, 114]⟩, .string ⟨#[77, 97, 121]⟩, .string ⟨#[74, 117, 110]⟩, .string ⟨#[74, 117, 108]⟩, .string ⟨#[65, 117, 103]⟩, .string ⟨#[83, 101, 112]⟩, .string ⟨#[79, 99, 116]⟩, .string ⟨#[78, 111, 118]⟩, .string ⟨#[68, 101, 99]⟩]) (.int .i64 11)).run Tryz.prog w = .ok (.string ⟨#[68, 101, 99]⟩) w := fun _ => by kernel_rfl
  rw [rounds_succ]
  go_wp2_with fail
  clear ix11
  refine (glyph_Fold.walk ⟨#[68, 101, 99]⟩ _ (by decide)).mono ?_
  rintro e u11 ⟨rfl, hu11⟩
  go_wp2_with fail
  refine (glyph_Fold.walk s _ hs).mono ?_
  rintro e v11 ⟨rfl, hv11⟩
  have B11 := Aside0.mk ((B10.out.trans (hu11.mono B10.out.size)).trans (hv11.mono (B10.out.trans (hu11.mono B10.out.size)).size))
  clear hu11 hv11
  by_cases h11 : ((glyph_Fold.g ⟨#[68, 101, 99]⟩).toList == (glyph_Fold.g s).toList) = true
  · go_wp2_with fail
    go_ret
    exact ⟨(fun {a b : Int} (e_ : a = b) => congrArg (fun z => Ending.returned (.int .i64 z)) e_) (by simp only [date_month.find, Tab1]; rw [if_neg n0.out, if_neg n1.out, if_neg n2.out, if_neg n3.out, if_neg n4.out, if_neg n5.out, if_neg n6.out, if_neg n7.out, if_neg n8.out, if_neg n9.out, if_neg n10.out, if_pos h11] <;> rfl), B11.out⟩
  have n11 := Aside0.mk h11
  replace h11 : ((glyph_Fold.g ⟨#[68, 101, 99]⟩).toList == (glyph_Fold.g s).toList) = false := by simpa using h11
  go_wp2_with fail
  clear h11
  rw [rounds_succ]
  go_wp2_with fail
  go_ret
  exact ⟨(fun {a b : Int} (e_ : a = b) => congrArg (fun z => Ending.returned (.int .i64 z)) e_) (by simp only [date_month.find, Tab1]; rw [if_neg n0.out, if_neg n1.out, if_neg n2.out, if_neg n3.out, if_neg n4.out, if_neg n5.out, if_neg n6.out, if_neg n7.out, if_neg n8.out, if_neg n9.out, if_neg n10.out, if_neg n11.out] <;> rfl), B11.out⟩
theorem date_month.calls (a0 : ByteArray) (r : Int) (w : World) (hG : Amb w) (h : date_month.f a0 = some r) :
    Calls Tryz.prog 156 #[.string a0] w fun e w' => e = .returned (.int .i64 r) ∧ Below w.heap.size w w' := by
 unfold date_month.f at h
 by_cases h0 : a0.size ≤ 140737488355327
 ·rw [if_pos h0] at h
  obtain rfl := Option.some.inj h
  exact date_month.walk a0 w h0 hG
 ·rw [if_neg h0] at h
  cases h

/-! ### date_within: function 173 -/
def date_within.f (a0 : Int) (a1 : Int) (a2 : Int) : Option (Bool) := if a0 ≥ a1 then (some (decide (a0 ≤ a2))) else (none)
set_option maxHeartbeats 8000000 in
set_option maxRecDepth 100000 in
theorem date_within.calls (a0 : Int) (a1 : Int) (a2 : Int) (r : Bool) (w : World) (h : date_within.f a0 a1 a2 = some r) :
    Calls Tryz.prog 173 #[.int .i64 a0, .int .i64 a1, .int .i64 a2] w fun e w' => e = .returned (.bool r) ∧ Drawn0 w w' := by
 unfold date_within.f at h
 have H := h
 clear h
 obtain ⟨c4, H⟩ := iteS H
 have c4b0 : decide (a1 ≤ a0) = true := decide_eq_true c4
 clear c4
 obtain rfl := Option.some.inj H
 go_enter Tryz.func173, Tryz.ntmps173
 go_wp2
 go_ret
 exact ⟨eqs, drw⟩

/-! ### date_zone: function 157 -/
def date_zone.f (k : Nat) (a0 : ByteArray) : Option (Int × Bool) := (glyph_Fold.f a0).bind fun t276 => (if t276.toList = ([103, 109, 116] : List UInt8) then (none) else (if t276.toList = ([117, 116] : List UInt8) then (none) else (if t276.toList = ([117, 116, 99] : List UInt8) then (none) else (if t276.toList = ([122] : List UInt8) then (some (0, true)) else (none)))))
theorem date_zone.mono : ∀ a0 k, LeO (date_zone.f k a0) (date_zone.f (k + 1) a0) := by
  intro a0 k
  unfold date_zone.f
  repeat' first | (with_reducible first | exact date_number.mono _ _ _ _ | exact LeO.refl _ | exact LeO.none _ | refine LeO.ite ?_ ?_ | refine LeO.bind ?_ (fun _ => ?_)) | exact date_number.mono _ _ _ _ | exact LeO.none _ | refine LeO.ite ?_ ?_ | refine LeO.bind ?_ (fun _ => ?_)
set_option maxHeartbeats 8000000 in
set_option maxRecDepth 100000 in
theorem date_zone.calls (k : Nat) (a0 : ByteArray) (r1 : Int) (r2 : Bool) (w : World) (h : date_zone.f k a0 = some (r1, r2)) :
    Calls Tryz.prog 157 #[.string a0] w fun e w' => e = .returned (.tuple #[.int .i64 r1, .bool r2]) ∧ Below w.heap.size w w' := by
 have HB := Aside0.mk (Below.refl w.heap.size w)
 unfold date_zone.f at h
 have H := h
 clear h
 replace H := Option.bind_eq_some_iff.mp H
 obtain ⟨t276, A20, H⟩ := H
 try dsimp only at H
 have A2 := Aside0.mk A20
 clear A20
 obtain ⟨c3, H⟩ := iteN H
 have c3b0 := beq_eq_false_iff_ne.mpr c3
 have c3b1 := bne_iff_ne.mpr c3
 obtain ⟨c4, H⟩ := iteN H
 have c4b0 := beq_eq_false_iff_ne.mpr c4
 have c4b1 := bne_iff_ne.mpr c4
 obtain ⟨c5, H⟩ := iteN H
 have c5b0 := beq_eq_false_iff_ne.mpr c5
 have c5b1 := bne_iff_ne.mpr c5
 obtain ⟨c6, H⟩ := iteS H
 have c6b0 := beq_iff_eq.mpr c6
 have c6b1 := bne_eq_false_iff_eq.mpr c6
 clear c6
 simp only [Option.some.injEq, Prod.mk.injEq] at H
 obtain ⟨rfl, rfl⟩ := H
 go_enter Tryz.func157, Tryz.ntmps157
 go_wp2_with (first | (go_at_call 62; (with_reducible refine (glyph_Fold.calls a0 t276 _ A2.out).mono ?_); rintro e w7 ⟨rfl, hb⟩; replace HB := Aside0.mk (below_step blw hb); (try clear hb)))
 repeat (go_quiet (first | (go_at_call 62; (with_reducible refine (glyph_Fold.calls a0 t276 _ A2.out).mono ?_); rintro e w7 ⟨rfl, hb⟩; replace HB := Aside0.mk (below_step blw hb); (try clear hb))); try go_wp2_with (first | (go_at_call 62; (with_reducible refine (glyph_Fold.calls a0 t276 _ A2.out).mono ?_); rintro e w7 ⟨rfl, hb⟩; replace HB := Aside0.mk (below_step blw hb); (try clear hb))))
 go_ret2
 exact ⟨by first | rfl | (simp [errW_none, errW_some] <;> rfl) | (simp [*, errW_none, errW_some] <;> rfl), blw⟩

/-! ### strings_Split: function 43 -/
def strings_Split.f (a0 : ByteArray) (a1 : ByteArray) : Option (List ByteArray) := if a0.size < 4294967281 then (if 1 ≤ a1.size then (some (Lib.splitB a1 0 (Lib.countB a0 a1) a0)) else none) else none
theorem strings_Split.own (w : World) (xs : List ByteArray) (hx : xs.length ≤ maxLen) : Kd.R Kd.string 9 (w.alloc (.cells (xs.map Value.string).toArray 9)) w.heap.size (fun _ => True) (.slice (some ⟨w.heap.size, 0, none⟩) xs.length xs.length) xs := by
  refine Kd.R_of_own ⟨by simp [encs], .inr ⟨w.heap.size, xs.length, (xs.map Value.string).toArray, rfl, Nat.le_refl _, ?_, Nat.le_refl _, hx, by simp, ?_⟩⟩ (fun _ _ => trivial)
  · show (w.heap.push _)[w.heap.size]? = _
    simp
  · rw [Nat.mul_one, List.take_of_length_le (by simp)]
    rfl
theorem strings_Split.calls (a0 : ByteArray) (a1 : ByteArray) (r : List ByteArray) (w : World) (hG : Amb w) (h : strings_Split.f a0 a1 = some r) :
    Calls Tryz.prog 43 #[.string a0, .string a1] w fun e w' => ∃ v0_ : Value, e = .returned (v0_) ∧ Kd.R Kd.string 9 w' w.heap.size (fun _ => True) v0_ r ∧ Below w.heap.size w w' := by
 unfold strings_Split.f at h
 by_cases h0 : a0.size < 4294967281
 ·rw [if_pos h0] at h
  by_cases h1 : 1 ≤ a1.size
  ·rw [if_pos h1] at h
   obtain rfl := Option.some.inj h
   obtain ⟨m, hm⟩ := hG.mx
   have hle := Lib.countB_le a1 h1 a0.size a0 (Nat.le_refl _)
   have hlen : (Lib.splitB a1 0 (Lib.countB a0 a1) a0).length = Lib.countB a0 a1 + 1 := Lib.splitB_all a1 h1 0 _ a0 rfl
   refine (Tryz.strings_Split a0 a1 m w h0 hm h1).mono ?_
   rintro e w' ⟨rfl, rfl⟩
   refine ⟨_, rfl, ?_, below_alloc (Below.refl _ _) _⟩
   have := strings_Split.own w (Lib.splitB a1 0 (Lib.countB a0 a1) a0) (by rw [hlen]; unfold maxLen; omega)
   rw [hlen] at this
   exact this
  ·rw [if_neg h1] at h
   cases h
 ·rw [if_neg h0] at h
  cases h

end Go.Proofs.YtcpmoolpbeeedaaGreatDoor.Q
