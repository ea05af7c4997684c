-- Written by a program of this session (wip/myprint) out of the translation, for YtocdojegoakmoaaDoor.
import Derived.Test.YtocdojegoakmoaaDoorZ0
import Derived.Test.YtocdojegoakmoaaDoorZ2
import Derived.Test.YtocdojegoakmoaaDoorZ5
import Derived.Test.YtocdojegoakmoaaDoorZ6
import Derived.Test.YtocdojegoakmoaaDoorZ7
import Derived.Test.YtocdojegoakmoaaDoorZ8
namespace Go.Proofs.YtocdojegoakmoaaDoor.Z
open Go.RowKit Go.Proofs.YtocdojegoakmoaaDoorW.PrintWords Go.Proofs.YtocdojegoakmoaaDoorW.PrintLast Go.Proofs.YtocdojegoakmoaaDoorW.PrintMore
attribute [local go_sem] max2_int min2_int max_two min_two max_three min_three max_four min_four   -- for this text's walks alone
set_option linter.unusedVariables false
set_option linter.unusedSimpArgs false

/-! ### date_Read: function 13 -/
mutual
def date_Read.j0 : Nat → List ByteArray → Int → Option (Int × Int)
 | 0, _, _ => none
 | k + 1, x4, x5 => if (x4.length : Int) = 5 then (if 2 < (x4.length : Int) then ((date_number.f k (rdOf ByteArray.empty x4 2) 4 5).bind fun t190 => (if 1 < (x4.length : Int) then ((date_month.f (rdOf ByteArray.empty x4 1)).bind fun t192 => (if 0 < (x4.length : Int) then ((date_number.f k (rdOf ByteArray.empty x4 0) 1 2).bind fun t194 => (if 4 < (x4.length : Int) then ((date_zone.f k (rdOf ByteArray.empty x4 4)).bind fun bt197 => (if 3 < (x4.length : Int) then ((date_Time_hours.f k t190 t192 t194 0 0 0 0 (rdOf ByteArray.empty x4 3)).bind fun bt200 => (if bt200.1 = true then (if bt197.2 = true then (if bt200.2.1 < 0 then (date_Read.j1 k x5 bt197.1 true bt200.2.1 bt200.2.2.1 bt200.2.2.2.1 bt200.2.2.2.2.1 bt200.2.2.2.2.2.1 bt200.2.2.2.2.2.2.1 bt200.2.2.2.2.2.2.2) else (if bt200.2.2.1 < 1 then (date_Read.j1 k x5 bt197.1 true bt200.2.1 bt200.2.2.1 bt200.2.2.2.1 bt200.2.2.2.2.1 bt200.2.2.2.2.2.1 bt200.2.2.2.2.2.2.1 bt200.2.2.2.2.2.2.2) else (date_Read.j1 k x5 bt197.1 (decide (bt200.2.2.2.1 < 0)) bt200.2.1 bt200.2.2.1 bt200.2.2.2.1 bt200.2.2.2.2.1 bt200.2.2.2.2.2.1 bt200.2.2.2.2.2.2.1 bt200.2.2.2.2.2.2.2))) else (date_Read.j1 k x5 bt197.1 true bt200.2.1 bt200.2.2.1 bt200.2.2.2.1 bt200.2.2.2.2.1 bt200.2.2.2.2.2.1 bt200.2.2.2.2.2.2.1 bt200.2.2.2.2.2.2.2)) else (date_Read.j1 k x5 bt197.1 true bt200.2.1 bt200.2.2.1 bt200.2.2.2.1 bt200.2.2.2.2.1 bt200.2.2.2.2.2.1 bt200.2.2.2.2.2.2.1 bt200.2.2.2.2.2.2.2))) else (none))) else (none))) else (none))) else (none))) else (none)) else (some (0, 3))
def date_Read.j1 : Nat → Int → Int → Bool → Int → Int → Int → Int → Int → Int → Int → Option (Int × Int)
 | 0, _, _, _, _, _, _, _, _, _, _ => none
 | k + 1, x5, x9, x81, x196000, x196001, x196002, x196003, x196004, x196005, x196006 => if x81 = true then (some (0, 3)) else ((date_Number.f k x196000 x196001 x196002 x196003 x196004 x196005 x196006).bind fun bt208 => (if bt208.2 = 0 then (if x5 ≥ 0 then (date_Read.j2 k x9 bt208.1 (x5 != (Int.tmod (wrap64 ((wrap64 (Int.tdiv bt208.1 86400)) + 4)) 7))) else (date_Read.j2 k x9 bt208.1 false)) else (some (0, bt208.2))))
def date_Read.j2 : Nat → Int → Int → Bool → Option (Int × Int)
 | 0, _, _, _ => none
 | k + 1, x9, x11, x99 => if x99 = true then (some (0, 3)) else ((date_moment.f (wrap64 (x11 - x9))).bind fun t210 => (if t210 = true then (some (wrap64 (x11 - x9), 0)) else (some (0, 1))))
end
def date_Read.f (k : Nat) (a0 : ByteArray) : Option (Int × Int) := (glyph_Words.f a0).bind fun t179 => (if (t179.length : Int) = 6 then (if 0 < (t179.length : Int) then ((strings_CutSuffix.f (rdOf ByteArray.empty t179 0) (⟨#[44]⟩ : ByteArray)).bind fun bt183 => ((date_week.f bt183.1).bind fun t185 => (if bt183.2 = true then (if t185 < 0 then (some (0, 3)) else (if 1 ≤ (t179.length : Int) then (date_Read.j0 k (t179.drop (1 : Int).toNat) t185) else (none))) else (some (0, 3))))) else (none)) else (date_Read.j0 k t179 (-1)))
theorem date_Read.mono_l : ∀ k, (∀ y0 y1, LeO (date_Read.j0 k y0 y1) (date_Read.j0 (k + 1) y0 y1)) ∧ (∀ y0 y1 y2 y3 y4 y5 y6 y7 y8 y9, LeO (date_Read.j1 k y0 y1 y2 y3 y4 y5 y6 y7 y8 y9) (date_Read.j1 (k + 1) y0 y1 y2 y3 y4 y5 y6 y7 y8 y9)) ∧ (∀ y0 y1 y2, LeO (date_Read.j2 k y0 y1 y2) (date_Read.j2 (k + 1) y0 y1 y2))
 | 0 => ⟨fun _ _ r h => by simp [date_Read.j0] at h, fun _ _ _ _ _ _ _ _ _ _ r h => by simp [date_Read.j1] at h, fun _ _ _ r h => by simp [date_Read.j2] at h⟩
 | k + 1 => by
  obtain ⟨ih0, ih1, ih2⟩ := date_Read.mono_l k
  refine ⟨?_, ?_, ?_⟩
  ·intro y0 y1
   unfold date_Read.j0
   repeat' first
   | (with_reducible exact ih0 _ _)
   | (with_reducible exact ih1 _ _ _ _ _ _ _ _ _ _)
   | (with_reducible exact ih2 _ _ _)
   | (with_reducible exact date_Number.mono _ _ _ _ _ _ _ _)
   | (with_reducible exact date_Time_hours.mono _ _ _ _ _ _ _ _ _)
   | (with_reducible exact date_number.mono _ _ _ _)
   | (with_reducible exact date_zone.mono _ _)
   | (with_reducible exact LeO.refl _)
   | (with_reducible exact LeO.none _)
   | (with_reducible refine LeO.ite ?_ ?_)
   | (with_reducible refine LeO.bind ?_ (fun _ => ?_))
   | exact ih0 _ _
   | exact ih1 _ _ _ _ _ _ _ _ _ _
   | exact ih2 _ _ _
   | exact date_Number.mono _ _ _ _ _ _ _ _
   | exact date_Time_hours.mono _ _ _ _ _ _ _ _ _
   | exact date_number.mono _ _ _ _
   | exact date_zone.mono _ _
   | exact LeO.none _
   | refine LeO.ite ?_ ?_
   | refine LeO.bind ?_ (fun _ => ?_)
  ·intro y0 y1 y2 y3 y4 y5 y6 y7 y8 y9
   unfold date_Read.j1
   repeat' first
   | (with_reducible exact ih0 _ _)
   | (with_reducible exact ih1 _ _ _ _ _ _ _ _ _ _)
   | (with_reducible exact ih2 _ _ _)
   | (with_reducible exact date_Number.mono _ _ _ _ _ _ _ _)
   | (with_reducible exact date_Time_hours.mono _ _ _ _ _ _ _ _ _)
   | (with_reducible exact date_number.mono _ _ _ _)
   | (with_reducible exact date_zone.mono _ _)
   | (with_reducible exact LeO.refl _)
   | (with_reducible exact LeO.none _)
   | (with_reducible refine LeO.ite ?_ ?_)
   | (with_reducible refine LeO.bind ?_ (fun _ => ?_))
   | exact ih0 _ _
   | exact ih1 _ _ _ _ _ _ _ _ _ _
   | exact ih2 _ _ _
   | exact date_Number.mono _ _ _ _ _ _ _ _
   | exact date_Time_hours.mono _ _ _ _ _ _ _ _ _
   | exact date_number.mono _ _ _ _
   | exact date_zone.mono _ _
   | exact LeO.none _
   | refine LeO.ite ?_ ?_
   | refine LeO.bind ?_ (fun _ => ?_)
  ·intro y0 y1 y2
   unfold date_Read.j2
   repeat' first
   | (with_reducible exact ih0 _ _)
   | (with_reducible exact ih1 _ _ _ _ _ _ _ _ _ _)
   | (with_reducible exact ih2 _ _ _)
   | (with_reducible exact date_Number.mono _ _ _ _ _ _ _ _)
   | (with_reducible exact date_Time_hours.mono _ _ _ _ _ _ _ _ _)
   | (with_reducible exact date_number.mono _ _ _ _)
   | (with_reducible exact date_zone.mono _ _)
   | (with_reducible exact LeO.refl _)
   | (with_reducible exact LeO.none _)
   | (with_reducible refine LeO.ite ?_ ?_)
   | (with_reducible refine LeO.bind ?_ (fun _ => ?_))
   | exact ih0 _ _
   | exact ih1 _ _ _ _ _ _ _ _ _ _
   | exact ih2 _ _ _
   | exact date_Number.mono _ _ _ _ _ _ _ _
   | exact date_Time_hours.mono _ _ _ _ _ _ _ _ _
   | exact date_number.mono _ _ _ _
   | exact date_zone.mono _ _
   | exact LeO.none _
   | refine LeO.ite ?_ ?_
   | refine LeO.bind ?_ (fun _ => ?_)
theorem date_Read.mono : ∀ a0 k, LeO (date_Read.f k a0) (date_Read.f (k + 1) a0) := by
 intro a0 k
 obtain ⟨ih0, ih1, ih2⟩ := date_Read.mono_l k
 unfold date_Read.f
 repeat' first
   | (with_reducible exact ih0 _ _)
   | (with_reducible exact ih1 _ _ _ _ _ _ _ _ _ _)
   | (with_reducible exact ih2 _ _ _)
   | (with_reducible exact date_Number.mono _ _ _ _ _ _ _ _)
   | (with_reducible exact date_Time_hours.mono _ _ _ _ _ _ _ _ _)
   | (with_reducible exact date_number.mono _ _ _ _)
   | (with_reducible exact date_zone.mono _ _)
   | (with_reducible exact LeO.refl _)
   | (with_reducible exact LeO.none _)
   | (with_reducible refine LeO.ite ?_ ?_)
   | (with_reducible refine LeO.bind ?_ (fun _ => ?_))
   | exact ih0 _ _
   | exact ih1 _ _ _ _ _ _ _ _ _ _
   | exact ih2 _ _ _
   | exact date_Number.mono _ _ _ _ _ _ _ _
   | exact date_Time_hours.mono _ _ _ _ _ _ _ _ _
   | exact date_number.mono _ _ _ _
   | exact date_zone.mono _ _
   | exact LeO.none _
   | refine LeO.ite ?_ ?_
   | refine LeO.bind ?_ (fun _ => ?_)
def date_Read.T11 : Bool × List (List Nat × List Nat) := (true, [([], []), ([0], [0]), ([1], [1]), ([2], [2]), ([], []), ([4], [4]), ([5], [5]), ([6, 3], [6]), ([], []), ([8], [8]), ([9], [9]), ([10, 7], [10]), ([3, 7, 11], [3, 7, 11]), ([], []), ([13, 12, 11, 0, 1, 2, 3, 4, 5, 6, 7, 8, 9, 10, 11, 12, 13], [12, 13])])
def date_Read.B11 : List Nat := [0, 1, 3, 7, 0, 16, 48, 127, 0, 256, 768, 2047, 4095, 0, 16383]
theorem date_Read.tab11 : rtab .any (opsOf Tryd.f13 11) = date_Read.T11 := by kernel_rfl
theorem date_Read.bits11 : waitsOk date_Read.T11.2 date_Read.B11 = true := by kernel_rfl
set_option maxHeartbeats 8000000 in
set_option maxRecDepth 100000 in
theorem date_Read.calls (k : Nat) (a0 : ByteArray) (r1 : Int) (r2 : Int) (w : World) (hG : Amb w) (h : date_Read.f k a0 = some (r1, r2)) :
  Calls Tryd.prog 13 #[.string a0] w fun e w' => e = .returned (.tuple #[.int .i64 r1, .int .i64 r2]) ∧ Below w.heap.size w w' := by
 have hu33 := Tryd.underlying33
 have HB := Aside0.mk (Below.refl w.heap.size w)
 have H : ((glyph_Words.f a0).bind fun t179 => (if (t179.length : Int) = 6 then (if 0 < (t179.length : Int) then ((strings_CutSuffix.f (rdOf ByteArray.empty t179 0) (⟨#[44]⟩ : ByteArray)).bind fun bt183 => ((date_week.f bt183.1).bind fun t185 => (if bt183.2 = true then (if t185 < 0 then (some (0, 3)) else (if 1 ≤ (t179.length : Int) then (date_Read.j0 k (t179.drop (1 : Int).toNat) t185) else (none))) else (some (0, 3))))) else (none)) else (date_Read.j0 k t179 (-1)))) = some (r1, r2) := h
 clear h
 have HG := Aside0.mk hG
 clear hG
 replace H := Option.bind_eq_some_iff.mp H
 obtain ⟨t179, A20, H⟩ := H
 replace H : (if (t179.length : Int) = 6 then (if 0 < (t179.length : Int) then ((strings_CutSuffix.f (rdOf ByteArray.empty t179 0) (⟨#[44]⟩ : ByteArray)).bind fun bt183 => ((date_week.f bt183.1).bind fun t185 => (if bt183.2 = true then (if t185 < 0 then (some (0, 3)) else (if 1 ≤ (t179.length : Int) then (date_Read.j0 k (t179.drop (1 : Int).toNat) t185) else (none))) else (some (0, 3))))) else (none)) else (date_Read.j0 k t179 (-1))) = some (r1, r2) := H
 have A2 := Aside0.mk A20
 clear A20
 have HC3 := Aside0.mk H
 clear H
 go_enter Tryd.func13, Tryd.ntmps13
 go_upto_if 17 with (first | ((with_reducible refine gate_callee (f := 27) rfl ?_); refine goesL_ (some 14) rfl rfl Tryd.func27 (by kernel_rfl) rfl #[.string a0] rfl (by (try simp only [List.map_toArray, List.map_cons, List.map_nil]); first | done | rfl | (simp only [List.length_drop, List.length_take]; rfl)) ?_; (with_reducible refine (glyph_Words.calls a0 t179 _ A2.out).mono ?_); rintro e w4 ⟨v180, rfl, ho0, hb⟩; refine ⟨_, rfl, ?_⟩; have n0_ := Aside0.mk (Kd.R_lower ho0 (below_size (by repeat (first | (with_reducible first | exact HB.out | apply below_alloc | apply pw_below_drewN | apply below_drew1) | exact HB.out)))); have n1_ := Aside0.mk (below_step (by repeat (first | (with_reducible first | exact HB.out | apply below_alloc | apply pw_below_drewN | apply below_drew1) | exact HB.out)) hb); clear HB; have HO181 := n0_; have HB := n1_; clear n0_ n1_; (try clear hb); (try clear hb2); (try clear hk); (try clear hi); (try clear ho0); obtain ⟨Ao5, co5, eo5⟩ := Kd.R_slice HO181.out; subst eo5))
 (try simp only [Act.put, List.setIfInBounds_toArray, List.set_cons_zero, List.set_cons_succ])
 go_cut [4, 5] (fun v4 v5 wc => ∃ (kq : Nat) (x4_2 : List ByteArray) (x5_2 : Int), v5 = .int .i64 x5_2 ∧ Aside0 (date_Read.j0 kq x4_2 x5_2 = some (r1, r2)) ∧ Aside0 (kq ≤ k) ∧ Aside0 (Kd.Q Kd.string 9 wc w.heap.size (fun _ => True) v4 x4_2) ∧ Aside0 (Below w.heap.size w wc))
 case first =>
  have H := HC3.out
  clear HC3
  by_cases c6 : (t179.length : Int) = 6
  ·rw [if_pos c6] at H
   have c6b0 : ((t179.length : Int) == 6) = true := beq_iff_eq.mpr c6
   have c6b1 : ((t179.length : Int) != 6) = false := bne_eq_false_iff_eq.mpr c6
   clear c6
   (first | rw [c6b0] | (simp only [i64_w, i32_w]; rw [c6b0]) | skip)
   by_cases c7 : 0 < (t179.length : Int)
   ·rw [if_pos c7] at H
    have c7b0 : decide (0 < (t179.length : Int)) = true := decide_eq_true c7
    have c7b1 : decide (0 < t179.length) = true := decide_eq_true (by omega)
    clear c7
    replace H := Option.bind_eq_some_iff.mp H
    obtain ⟨⟨t183, t184⟩, A80, H⟩ := H
    replace H : ((date_week.f t183).bind fun t185 => (if t184 = true then (if t185 < 0 then (some (0, 3)) else (if 1 ≤ (t179.length : Int) then (date_Read.j0 k (t179.drop (1 : Int).toNat) t185) else (none))) else (some (0, 3)))) = some (r1, r2) := H
    have A8 := Aside0.mk A80
    clear A80
    replace H := Option.bind_eq_some_iff.mp H
    obtain ⟨t185, A90, H⟩ := H
    replace H : (if t184 = true then (if t185 < 0 then (some (0, 3)) else (if 1 ≤ (t179.length : Int) then (date_Read.j0 k (t179.drop (1 : Int).toNat) t185) else (none))) else (some (0, 3))) = some (r1, r2) := H
    have A9 := Aside0.mk A90
    clear A90
    by_cases c10 : t184 = true
    ·subst c10
     have H1 : (if t185 < 0 then (some (0, 3)) else (if 1 ≤ (t179.length : Int) then (date_Read.j0 k (t179.drop (1 : Int).toNat) t185) else (none))) = some (r1, r2) := by rw [if_pos rfl] at H; exact H
     clear H
     have H := H1
     clear H1
     by_cases c11 : t185 < 0
     ·rw [if_pos c11] at H
      have c11b0 : decide (t185 < 0) = true := decide_eq_true c11
      clear c11
      simp only [Option.some.injEq, Prod.mk.injEq] at H
      obtain ⟨rfl, rfl⟩ := H
      have p182 : 0 ≤ (0 : Int) := (by omega)
      have q182 : 0 < (t179.length : Int) := of_decide_eq_true (by first | (with_reducible assumption) | assumption)
      obtain ⟨ad182, e182, hx182_0⟩ := Kd.at_string (Kd.R_reads' HO181.out).2.2 0 p182 q182
      cases e182
      have qi182 : (0 < t179.length) = True := eq_true (by omega)
      (try rw [show ((0 : Int)).toNat = 0 from rfl] at hx182_0)
      (try rw [Addr.add_zero'] at hx182_0)
      replace p182 := eq_true p182
      replace q182 := eq_true q182
      go_wp2_with (first | ((with_reducible refine gate_callee (f := 28) rfl ?_); refine goesL_ (some 22) rfl rfl Tryd.func28 (by kernel_rfl) rfl #[.string (rdOf ByteArray.empty t179 0), .string (⟨#[44]⟩ : ByteArray)] rfl (by (try simp only [List.map_toArray, List.map_cons, List.map_nil]); first | done | rfl | (simp only [List.length_drop, List.length_take]; rfl)) ?_; (with_reducible refine (strings_CutSuffix.calls (rdOf ByteArray.empty t179 0) (⟨#[44]⟩ : ByteArray) t183 true _ A8.out).mono ?_); rintro e w' ⟨rfl, ⟨nd, rfl⟩⟩; refine ⟨_, rfl, ?_⟩) | ((with_reducible refine gate_callee (f := 29) rfl ?_); refine goesL_ (some 26) rfl rfl Tryd.func29 (by kernel_rfl) rfl #[.string t183] rfl (by (try simp only [List.map_toArray, List.map_cons, List.map_nil]); first | done | rfl | (simp only [List.length_drop, List.length_take]; rfl)) ?_; (with_reducible refine (date_week.calls t183 t185 _ ?side1 A9.out).mono ?_); (case side1 => exact Amb.at HG.out (by repeat (first | (with_reducible first | exact HB.out | apply below_alloc | apply pw_below_drewN | apply below_drew1) | exact HB.out))); rintro e w12 ⟨rfl, hb⟩; refine ⟨_, rfl, ?_⟩; have n0_ := Aside0.mk (Kd.R_below (by (with_reducible repeat (first | apply Kd.R_alloc | apply Kd.R_drewN | apply Kd.R_drew)); exact HO181.out) hb); have n1_ := Aside0.mk (below_step (by repeat (first | (with_reducible first | exact HB.out | apply below_alloc | apply pw_below_drewN | apply below_drew1) | exact HB.out)) hb); clear HO181; clear HB; have HO181 := n0_; have HB := n1_; clear n0_ n1_; (try clear hb); (try clear hb2); (try clear hk); (try clear hi)))
      go_ret2
      exact ⟨by first | rfl | (simp [errW_none, errW_some] <;> rfl) | (simp [*, errW_none, errW_some] <;> rfl), by repeat (first | (with_reducible first | exact HB.out | apply below_alloc | apply pw_below_drewN | apply below_drew1) | exact HB.out)⟩
     ·rw [if_neg c11] at H
      have c11b0 : decide (t185 < 0) = false := decide_eq_false c11
      clear c11
      by_cases c13 : 1 ≤ (t179.length : Int)
      ·rw [if_pos c13] at H
       have c13b0 := eq_true c13
       have c13b1 : decide (1 ≤ (t179.length : Int)) = true := decide_eq_true c13
       clear c13
       obtain ⟨y186, hy186⟩ : ∃ y_ : List ByteArray, y_ = (t179.drop (1 : Int).toNat) := ⟨_, rfl⟩
       replace H : (date_Read.j0 k y186 t185) = some (r1, r2) := by first | (rw [hy186]; with_reducible exact H) | (have H2_ := (Option.bind_some _ _).symm.trans H; rw [hy186]; with_reducible exact H2_) | (have H2_ := (Option.bind_some _ _).symm.trans H; with_reducible exact H2_) | with_reducible exact H | (rw [hy186]; exact H) | exact H
       have Ny186 := Aside0.mk hy186
       clear hy186
       have H' := Aside0.mk H
       clear H
       have p182 : 0 ≤ (0 : Int) := (by omega)
       have q182 : 0 < (t179.length : Int) := of_decide_eq_true (by first | (with_reducible assumption) | assumption)
       obtain ⟨ad182, e182, hx182_0⟩ := Kd.at_string (Kd.R_reads' HO181.out).2.2 0 p182 q182
       cases e182
       have qi182 : (0 < t179.length) = True := eq_true (by omega)
       (try rw [show ((0 : Int)).toNat = 0 from rfl] at hx182_0)
       (try rw [Addr.add_zero'] at hx182_0)
       replace p182 := eq_true p182
       replace q182 := eq_true q182
       go_wp2_with (first | ((with_reducible refine gate_callee (f := 28) rfl ?_); refine goesL_ (some 22) rfl rfl Tryd.func28 (by kernel_rfl) rfl #[.string (rdOf ByteArray.empty t179 0), .string (⟨#[44]⟩ : ByteArray)] rfl (by (try simp only [List.map_toArray, List.map_cons, List.map_nil]); first | done | rfl | (simp only [List.length_drop, List.length_take]; rfl)) ?_; (with_reducible refine (strings_CutSuffix.calls (rdOf ByteArray.empty t179 0) (⟨#[44]⟩ : ByteArray) t183 true _ A8.out).mono ?_); rintro e w' ⟨rfl, ⟨nd, rfl⟩⟩; refine ⟨_, rfl, ?_⟩) | ((with_reducible refine gate_callee (f := 29) rfl ?_); refine goesL_ (some 26) rfl rfl Tryd.func29 (by kernel_rfl) rfl #[.string t183] rfl (by (try simp only [List.map_toArray, List.map_cons, List.map_nil]); first | done | rfl | (simp only [List.length_drop, List.length_take]; rfl)) ?_; (with_reducible refine (date_week.calls t183 t185 _ ?side1 A9.out).mono ?_); (case side1 => exact Amb.at HG.out (by repeat (first | (with_reducible first | exact HB.out | apply below_alloc | apply pw_below_drewN | apply below_drew1) | exact HB.out))); rintro e w14 ⟨rfl, hb⟩; refine ⟨_, rfl, ?_⟩; have n0_ := Aside0.mk (Kd.R_below (by (with_reducible repeat (first | apply Kd.R_alloc | apply Kd.R_drewN | apply Kd.R_drew)); exact HO181.out) hb); have n1_ := Aside0.mk (below_step (by repeat (first | (with_reducible first | exact HB.out | apply below_alloc | apply pw_below_drewN | apply below_drew1) | exact HB.out)) hb); clear HO181; clear HB; have HO181 := n0_; have HB := n1_; clear n0_ n1_; (try clear hb); (try clear hb2); (try clear hk); (try clear hi); have q15 : (1 : Int) ≤ ((t179.length : Int) : Int) := of_decide_eq_true (by first | (with_reducible assumption) | assumption); obtain ⟨i015, hi015, _, hsz15, _⟩ := info_parts info9; have hcut15 := cut_from (P := Tryd.prog) 47 9 .i64 Tryd.underlying47 hi015 1 hsz15 (some ad182) t179.length co5 1 (by omega) q15; have hr15 := Kd.Q_drop (k := (1 : Int).toNat) (Kd.Q_of_R HO181.out) (by omega); obtain ⟨A15, hA15⟩ : ∃ A1, A1 = (if co5 = (1 : Int).toNat then (some ad182) else ((some ad182) : Option Addr).map (·.add ((1 : Int).toNat * 1))) := ⟨_, rfl⟩; obtain ⟨c15, hc15⟩ : ∃ c1, c1 = co5 - (1 : Int).toNat := ⟨_, rfl⟩; have hy15 : y186.length = t179.length - (1 : Int).toNat := (by rw [Ny186.out, List.length_drop]); rw [← Ny186.out] at hr15; rw [← hy15, ← hA15, ← hc15] at hcut15; replace hr15 : Kd.Q Kd.string 9 w14 w.heap.size (fun _ => True) (.slice A15 y186.length c15) y186 := (by rw [hA15, hc15, hy15]; exact hr15); have HE15 : Aside0 ((Value.slice A15 y186.length c15).ownBlock = (.slice (some ad182) t179.length co5 : Value).ownBlock) := ⟨by rw [hA15]; split <;> (cases ((some ad182) : Option Addr) <;> rfl)⟩; clear hy15 hi015 hsz15 HO181 hA15 hc15; have HO188 := Aside0.mk hr15; clear hr15; replace q15 := eq_true q15))
       go_meet
       case rel => exact ⟨_, (y186), (t185), (by first | rfl | (simp; done) | (simp [*]; done)), H', ⟨by first | omega | exact Nat.le_refl _⟩, ⟨by (with_reducible repeat (first | apply Kd.Q_alloc | apply Kd.Q_drewN | apply Kd.Q_drew)); exact HO188.out⟩, ⟨by repeat (first | (with_reducible first | exact HB.out | apply below_alloc | apply pw_below_drewN | apply below_drew1) | exact HB.out)⟩⟩
      ·rw [if_neg c13] at H
       exact absurd H (by simp)
    ·replace c10 := Bool.eq_false_iff.mpr c10
     subst c10
     have H1 : (some (0, 3)) = some (r1, r2) := by rw [if_neg (show ¬ (false = true) by decide)] at H; exact H
     clear H
     have H := H1
     clear H1
     simp only [Option.some.injEq, Prod.mk.injEq] at H
     obtain ⟨rfl, rfl⟩ := H
     have p182 : 0 ≤ (0 : Int) := (by omega)
     have q182 : 0 < (t179.length : Int) := of_decide_eq_true (by first | (with_reducible assumption) | assumption)
     obtain ⟨ad182, e182, hx182_0⟩ := Kd.at_string (Kd.R_reads' HO181.out).2.2 0 p182 q182
     cases e182
     have qi182 : (0 < t179.length) = True := eq_true (by omega)
     (try rw [show ((0 : Int)).toNat = 0 from rfl] at hx182_0)
     (try rw [Addr.add_zero'] at hx182_0)
     replace p182 := eq_true p182
     replace q182 := eq_true q182
     go_wp2_with (first | ((with_reducible refine gate_callee (f := 28) rfl ?_); refine goesL_ (some 22) rfl rfl Tryd.func28 (by kernel_rfl) rfl #[.string (rdOf ByteArray.empty t179 0), .string (⟨#[44]⟩ : ByteArray)] rfl (by (try simp only [List.map_toArray, List.map_cons, List.map_nil]); first | done | rfl | (simp only [List.length_drop, List.length_take]; rfl)) ?_; (with_reducible refine (strings_CutSuffix.calls (rdOf ByteArray.empty t179 0) (⟨#[44]⟩ : ByteArray) t183 false _ A8.out).mono ?_); rintro e w' ⟨rfl, ⟨nd, rfl⟩⟩; refine ⟨_, rfl, ?_⟩) | ((with_reducible refine gate_callee (f := 29) rfl ?_); refine goesL_ (some 26) rfl rfl Tryd.func29 (by kernel_rfl) rfl #[.string t183] rfl (by (try simp only [List.map_toArray, List.map_cons, List.map_nil]); first | done | rfl | (simp only [List.length_drop, List.length_take]; rfl)) ?_; (with_reducible refine (date_week.calls t183 t185 _ ?side1 A9.out).mono ?_); (case side1 => exact Amb.at HG.out (by repeat (first | (with_reducible first | exact HB.out | apply below_alloc | apply pw_below_drewN | apply below_drew1) | exact HB.out))); rintro e w16 ⟨rfl, hb⟩; refine ⟨_, rfl, ?_⟩; have n0_ := Aside0.mk (Kd.R_below (by (with_reducible repeat (first | apply Kd.R_alloc | apply Kd.R_drewN | apply Kd.R_drew)); exact HO181.out) hb); have n1_ := Aside0.mk (below_step (by repeat (first | (with_reducible first | exact HB.out | apply below_alloc | apply pw_below_drewN | apply below_drew1) | exact HB.out)) hb); clear HO181; clear HB; have HO181 := n0_; have HB := n1_; clear n0_ n1_; (try clear hb); (try clear hb2); (try clear hk); (try clear hi)))
     go_ret2
     exact ⟨by first | rfl | (simp [errW_none, errW_some] <;> rfl) | (simp [*, errW_none, errW_some] <;> rfl), by repeat (first | (with_reducible first | exact HB.out | apply below_alloc | apply pw_below_drewN | apply below_drew1) | exact HB.out)⟩
   ·rw [if_neg c7] at H
    exact absurd H (by simp)
  ·rw [if_neg c6] at H
   have c6b0 : ((t179.length : Int) == 6) = false := beq_eq_false_iff_ne.mpr c6
   have c6b1 : ((t179.length : Int) != 6) = true := bne_iff_ne.mpr c6
   (first | rw [c6b0] | (simp only [i64_w, i32_w]; rw [c6b0]) | skip)
   have H' := Aside0.mk H
   clear H
   go_wp2
   go_meet
   case rel => exact ⟨_, (t179), ((-1)), (by first | rfl | (simp; done) | (simp [*]; done)), H', ⟨by first | omega | exact Nat.le_refl _⟩, ⟨Kd.Q_of_R (by (with_reducible repeat (first | apply Kd.R_alloc | apply Kd.R_drewN | apply Kd.R_drew)); exact HO181.out)⟩, ⟨by repeat (first | (with_reducible first | exact HB.out | apply below_alloc | apply pw_below_drewN | apply below_drew1) | exact HB.out)⟩⟩
 case rest =>
  clear HC3
  try clear c1
  try clear p1
  try clear q1
  try clear hx1
  try clear qi1
  try clear c2
  try clear p2
  try clear c6
  try clear c6b0
  try clear c6b1
  try clear c7
  try clear c7b0
  try clear c7b1
  try clear c10
  try clear c11
  try clear c11b0
  try clear c13
  try clear c13b0
  try clear c13b1
  try clear c15
  try clear q15
  try clear hx182_0
  try clear p182
  try clear q15
  try clear q182
  obtain ⟨kq, x4_2, x5_2, rfl, HA, HJ2, HO_4, HB⟩ := hcut
  cases kq with
  | zero => exact absurd HA.out (by simp [date_Read.j0])
  | succ kj2 =>
   have H := HA.out
   clear HA
   simp only [date_Read.j0] at H
   by_cases c17 : (x4_2.length : Int) = 5
   ·rw [if_pos c17] at H
    have c17b0 : ((x4_2.length : Int) == 5) = true := beq_iff_eq.mpr c17
    have c17b1 : ((x4_2.length : Int) != 5) = false := bne_eq_false_iff_eq.mpr c17
    clear c17
    by_cases c18 : 2 < (x4_2.length : Int)
    ·rw [if_pos c18] at H
     have c18b0 : decide (2 < (x4_2.length : Int)) = true := decide_eq_true c18
     have c18b1 : decide (2 < x4_2.length) = true := decide_eq_true (by omega)
     clear c18
     replace H := Option.bind_eq_some_iff.mp H
     obtain ⟨t190, A190, H⟩ := H
     replace H : (if 1 < (x4_2.length : Int) then ((date_month.f (rdOf ByteArray.empty x4_2 1)).bind fun t192 => (if 0 < (x4_2.length : Int) then ((date_number.f kj2 (rdOf ByteArray.empty x4_2 0) 1 2).bind fun t194 => (if 4 < (x4_2.length : Int) then ((date_zone.f kj2 (rdOf ByteArray.empty x4_2 4)).bind fun bt197 => (if 3 < (x4_2.length : Int) then ((date_Time_hours.f kj2 t190 t192 t194 0 0 0 0 (rdOf ByteArray.empty x4_2 3)).bind fun bt200 => (if bt200.1 = true then (if bt197.2 = true then (if bt200.2.1 < 0 then (date_Read.j1 kj2 x5_2 bt197.1 true bt200.2.1 bt200.2.2.1 bt200.2.2.2.1 bt200.2.2.2.2.1 bt200.2.2.2.2.2.1 bt200.2.2.2.2.2.2.1 bt200.2.2.2.2.2.2.2) else (if bt200.2.2.1 < 1 then (date_Read.j1 kj2 x5_2 bt197.1 true bt200.2.1 bt200.2.2.1 bt200.2.2.2.1 bt200.2.2.2.2.1 bt200.2.2.2.2.2.1 bt200.2.2.2.2.2.2.1 bt200.2.2.2.2.2.2.2) else (date_Read.j1 kj2 x5_2 bt197.1 (decide (bt200.2.2.2.1 < 0)) bt200.2.1 bt200.2.2.1 bt200.2.2.2.1 bt200.2.2.2.2.1 bt200.2.2.2.2.2.1 bt200.2.2.2.2.2.2.1 bt200.2.2.2.2.2.2.2))) else (date_Read.j1 kj2 x5_2 bt197.1 true bt200.2.1 bt200.2.2.1 bt200.2.2.2.1 bt200.2.2.2.2.1 bt200.2.2.2.2.2.1 bt200.2.2.2.2.2.2.1 bt200.2.2.2.2.2.2.2)) else (date_Read.j1 kj2 x5_2 bt197.1 true bt200.2.1 bt200.2.2.1 bt200.2.2.2.1 bt200.2.2.2.2.1 bt200.2.2.2.2.2.1 bt200.2.2.2.2.2.2.1 bt200.2.2.2.2.2.2.2))) else (none))) else (none))) else (none))) else (none)) = some (r1, r2) := H
     have A19 := Aside0.mk A190
     clear A190
     by_cases c20 : 1 < (x4_2.length : Int)
     ·rw [if_pos c20] at H
      have c20b0 : decide (1 < (x4_2.length : Int)) = true := decide_eq_true c20
      have c20b1 : decide (1 < x4_2.length) = true := decide_eq_true (by omega)
      clear c20
      replace H := Option.bind_eq_some_iff.mp H
      obtain ⟨t192, A210, H⟩ := H
      replace H : (if 0 < (x4_2.length : Int) then ((date_number.f kj2 (rdOf ByteArray.empty x4_2 0) 1 2).bind fun t194 => (if 4 < (x4_2.length : Int) then ((date_zone.f kj2 (rdOf ByteArray.empty x4_2 4)).bind fun bt197 => (if 3 < (x4_2.length : Int) then ((date_Time_hours.f kj2 t190 t192 t194 0 0 0 0 (rdOf ByteArray.empty x4_2 3)).bind fun bt200 => (if bt200.1 = true then (if bt197.2 = true then (if bt200.2.1 < 0 then (date_Read.j1 kj2 x5_2 bt197.1 true bt200.2.1 bt200.2.2.1 bt200.2.2.2.1 bt200.2.2.2.2.1 bt200.2.2.2.2.2.1 bt200.2.2.2.2.2.2.1 bt200.2.2.2.2.2.2.2) else (if bt200.2.2.1 < 1 then (date_Read.j1 kj2 x5_2 bt197.1 true bt200.2.1 bt200.2.2.1 bt200.2.2.2.1 bt200.2.2.2.2.1 bt200.2.2.2.2.2.1 bt200.2.2.2.2.2.2.1 bt200.2.2.2.2.2.2.2) else (date_Read.j1 kj2 x5_2 bt197.1 (decide (bt200.2.2.2.1 < 0)) bt200.2.1 bt200.2.2.1 bt200.2.2.2.1 bt200.2.2.2.2.1 bt200.2.2.2.2.2.1 bt200.2.2.2.2.2.2.1 bt200.2.2.2.2.2.2.2))) else (date_Read.j1 kj2 x5_2 bt197.1 true bt200.2.1 bt200.2.2.1 bt200.2.2.2.1 bt200.2.2.2.2.1 bt200.2.2.2.2.2.1 bt200.2.2.2.2.2.2.1 bt200.2.2.2.2.2.2.2)) else (date_Read.j1 kj2 x5_2 bt197.1 true bt200.2.1 bt200.2.2.1 bt200.2.2.2.1 bt200.2.2.2.2.1 bt200.2.2.2.2.2.1 bt200.2.2.2.2.2.2.1 bt200.2.2.2.2.2.2.2))) else (none))) else (none))) else (none)) = some (r1, r2) := H
      have A21 := Aside0.mk A210
      clear A210
      by_cases c22 : 0 < (x4_2.length : Int)
      ·rw [if_pos c22] at H
       have c22b0 : decide (0 < (x4_2.length : Int)) = true := decide_eq_true c22
       have c22b1 : decide (0 < x4_2.length) = true := decide_eq_true (by omega)
       clear c22
       replace H := Option.bind_eq_some_iff.mp H
       obtain ⟨t194, A230, H⟩ := H
       replace H : (if 4 < (x4_2.length : Int) then ((date_zone.f kj2 (rdOf ByteArray.empty x4_2 4)).bind fun bt197 => (if 3 < (x4_2.length : Int) then ((date_Time_hours.f kj2 t190 t192 t194 0 0 0 0 (rdOf ByteArray.empty x4_2 3)).bind fun bt200 => (if bt200.1 = true then (if bt197.2 = true then (if bt200.2.1 < 0 then (date_Read.j1 kj2 x5_2 bt197.1 true bt200.2.1 bt200.2.2.1 bt200.2.2.2.1 bt200.2.2.2.2.1 bt200.2.2.2.2.2.1 bt200.2.2.2.2.2.2.1 bt200.2.2.2.2.2.2.2) else (if bt200.2.2.1 < 1 then (date_Read.j1 kj2 x5_2 bt197.1 true bt200.2.1 bt200.2.2.1 bt200.2.2.2.1 bt200.2.2.2.2.1 bt200.2.2.2.2.2.1 bt200.2.2.2.2.2.2.1 bt200.2.2.2.2.2.2.2) else (date_Read.j1 kj2 x5_2 bt197.1 (decide (bt200.2.2.2.1 < 0)) bt200.2.1 bt200.2.2.1 bt200.2.2.2.1 bt200.2.2.2.2.1 bt200.2.2.2.2.2.1 bt200.2.2.2.2.2.2.1 bt200.2.2.2.2.2.2.2))) else (date_Read.j1 kj2 x5_2 bt197.1 true bt200.2.1 bt200.2.2.1 bt200.2.2.2.1 bt200.2.2.2.2.1 bt200.2.2.2.2.2.1 bt200.2.2.2.2.2.2.1 bt200.2.2.2.2.2.2.2)) else (date_Read.j1 kj2 x5_2 bt197.1 true bt200.2.1 bt200.2.2.1 bt200.2.2.2.1 bt200.2.2.2.2.1 bt200.2.2.2.2.2.1 bt200.2.2.2.2.2.2.1 bt200.2.2.2.2.2.2.2))) else (none))) else (none)) = some (r1, r2) := H
       have A23 := Aside0.mk A230
       clear A230
       by_cases c24 : 4 < (x4_2.length : Int)
       ·rw [if_pos c24] at H
        have c24b0 : decide (4 < (x4_2.length : Int)) = true := decide_eq_true c24
        have c24b1 : decide (4 < x4_2.length) = true := decide_eq_true (by omega)
        clear c24
        replace H := Option.bind_eq_some_iff.mp H
        obtain ⟨⟨t197, t198⟩, A250, H⟩ := H
        replace H : (if 3 < (x4_2.length : Int) then ((date_Time_hours.f kj2 t190 t192 t194 0 0 0 0 (rdOf ByteArray.empty x4_2 3)).bind fun bt200 => (if bt200.1 = true then (if t198 = true then (if bt200.2.1 < 0 then (date_Read.j1 kj2 x5_2 t197 true bt200.2.1 bt200.2.2.1 bt200.2.2.2.1 bt200.2.2.2.2.1 bt200.2.2.2.2.2.1 bt200.2.2.2.2.2.2.1 bt200.2.2.2.2.2.2.2) else (if bt200.2.2.1 < 1 then (date_Read.j1 kj2 x5_2 t197 true bt200.2.1 bt200.2.2.1 bt200.2.2.2.1 bt200.2.2.2.2.1 bt200.2.2.2.2.2.1 bt200.2.2.2.2.2.2.1 bt200.2.2.2.2.2.2.2) else (date_Read.j1 kj2 x5_2 t197 (decide (bt200.2.2.2.1 < 0)) bt200.2.1 bt200.2.2.1 bt200.2.2.2.1 bt200.2.2.2.2.1 bt200.2.2.2.2.2.1 bt200.2.2.2.2.2.2.1 bt200.2.2.2.2.2.2.2))) else (date_Read.j1 kj2 x5_2 t197 true bt200.2.1 bt200.2.2.1 bt200.2.2.2.1 bt200.2.2.2.2.1 bt200.2.2.2.2.2.1 bt200.2.2.2.2.2.2.1 bt200.2.2.2.2.2.2.2)) else (date_Read.j1 kj2 x5_2 t197 true bt200.2.1 bt200.2.2.1 bt200.2.2.2.1 bt200.2.2.2.2.1 bt200.2.2.2.2.2.1 bt200.2.2.2.2.2.2.1 bt200.2.2.2.2.2.2.2))) else (none)) = some (r1, r2) := H
        have A25 := Aside0.mk A250
        clear A250
        have HC26 := Aside0.mk H
        clear H
        obtain ⟨Ao27, co27, eo27, _⟩ := Kd.Q_slice HO_4.out
        subst eo27
        try go_wp2
        have n0_ := Aside0.mk (Kd.Q_drew HO_4.out)
        have n1_ := Aside0.mk (below_drew1 HB.out)
        clear HO_4
        clear HB
        have HO_4 := n0_
        have HB := n1_
        clear n0_ n1_
        have p189 : 0 ≤ (2 : Int) := (by omega)
        have q189 : 2 < (x4_2.length : Int) := of_decide_eq_true (by first | (with_reducible assumption) | assumption)
        obtain ⟨ad189, e189, hx189_0⟩ := Kd.at_string (Kd.Q_reads' HO_4.out).2.2 2 p189 q189
        cases e189
        (try simp only [show (2 : Int).toNat = 2 from rfl, Nat.reduceMul, Nat.reduceEqDiff, Go.Addr.add, ↓reduceIte] at hx189_0)
        have qi189 : (2 < x4_2.length) = True := eq_true (by omega)
        (try rw [show ((2 : Int)).toNat = 2 from rfl] at hx189_0)
        replace p189 := eq_true p189
        replace q189 := eq_true q189
        have p191 : 0 ≤ (1 : Int) := (by omega)
        have q191 : 1 < (x4_2.length : Int) := of_decide_eq_true (by first | (with_reducible assumption) | assumption)
        obtain ⟨ad191, e191, hx191_0⟩ := Kd.at_string (Kd.Q_reads' HO_4.out).2.2 1 p191 q191
        obtain rfl : ad189 = ad191 := (by injection e191)
        (try simp only [show (1 : Int).toNat = 1 from rfl, Nat.reduceMul, Nat.reduceEqDiff, Go.Addr.add, ↓reduceIte] at hx191_0)
        have qi191 : (1 < x4_2.length) = True := eq_true (by omega)
        (try rw [show ((1 : Int)).toNat = 1 from rfl] at hx191_0)
        replace p191 := eq_true p191
        replace q191 := eq_true q191
        have p193 : 0 ≤ (0 : Int) := (by omega)
        have q193 : 0 < (x4_2.length : Int) := of_decide_eq_true (by first | (with_reducible assumption) | assumption)
        obtain ⟨ad193, e193, hx193_0⟩ := Kd.at_string (Kd.Q_reads' HO_4.out).2.2 0 p193 q193
        obtain rfl : ad189 = ad193 := (by injection e193)
        have qi193 : (0 < x4_2.length) = True := eq_true (by omega)
        (try rw [show ((0 : Int)).toNat = 0 from rfl] at hx193_0)
        (try rw [Addr.add_zero'] at hx193_0)
        replace p193 := eq_true p193
        replace q193 := eq_true q193
        refine start_ (n := 15) (S := fun w' => w'.cell? ⟨ad189.block, ad189.off + 2, none⟩ = some (.string (rdOf ByteArray.empty x4_2 2)) ∧ w'.cell? ⟨ad189.block, ad189.off + 1, none⟩ = some (.string (rdOf ByteArray.empty x4_2 1)) ∧ w'.cell? ad189 = some (.string (rdOf ByteArray.empty x4_2 0))) (ds := []) #[ff,ff,ff,ff,ff,ff,ff,ff,ff,ff,ff,ff,ff,ff,ff] (by kernel_rfl) rfl rfl ⟨hx189_0, hx191_0, hx193_0⟩ (fun hHeld => ?_); refine with_tabW date_Read.tab11 date_Read.bits11 (fun HT_ HW_ => ?_)
        generalize wc.drew = w28 at HO_4 HB hx189_0 hx191_0 hx193_0 hHeld ⊢
        refine pure_ (i := 0) (N := some 38) (v := ?_) (a' := ?_) #[tt,ff,ff,ff,ff,ff,ff,ff,ff,ff,ff,ff,ff,ff,ff] rfl rfl (any_of HT_.out (by kernel_rfl)) (fun _ _ _ h => h) (Or.inl ⟨by rfl, ?_⟩) ?_ ?_
        rotate_left
        ·intro w'
         go_simp
         with_reducible rfl
        rotate_left
        ·simp only [Act.put, List.setIfInBounds_toArray, List.set_cons_zero, List.set_cons_succ, i64_w, i32_w]
         rfl
        refine pure_ (i := 1) (N := some 39) (v := ?_) (a' := ?_) #[tt,tt,ff,ff,ff,ff,ff,ff,ff,ff,ff,ff,ff,ff,ff] rfl rfl (any_of HT_.out (by kernel_rfl)) (fun _ _ _ h => h) (Or.inl ⟨by rfl, ?_⟩) ?_ ?_
        rotate_left
        ·intro w'
         go_simp
         with_reducible rfl
        rotate_left
        ·simp only [Act.put, List.setIfInBounds_toArray, List.set_cons_zero, List.set_cons_succ, i64_w, i32_w]
         rfl
        refine pure_ (i := 4) (N := some 42) (v := ?_) (a' := ?_) #[tt,tt,ff,ff,tt,ff,ff,ff,ff,ff,ff,ff,ff,ff,ff] rfl rfl (any_of HT_.out (by kernel_rfl)) (fun _ _ _ h => h) (Or.inl ⟨by rfl, ?_⟩) ?_ ?_
        rotate_left
        ·intro w'
         go_simp
         with_reducible rfl
        rotate_left
        ·simp only [Act.put, List.setIfInBounds_toArray, List.set_cons_zero, List.set_cons_succ, i64_w, i32_w]
         rfl
        refine pure_ (i := 5) (N := some 43) (v := ?_) (a' := ?_) #[tt,tt,ff,ff,tt,tt,ff,ff,ff,ff,ff,ff,ff,ff,ff] rfl rfl (any_of HT_.out (by kernel_rfl)) (fun _ _ _ h => h) (Or.inl ⟨by rfl, ?_⟩) ?_ ?_
        rotate_left
        ·intro w'
         go_simp
         with_reducible rfl
        rotate_left
        ·simp only [Act.put, List.setIfInBounds_toArray, List.set_cons_zero, List.set_cons_succ, i64_w, i32_w]
         rfl
        refine pure_ (i := 8) (N := some 46) (v := ?_) (a' := ?_) #[tt,tt,ff,ff,tt,tt,ff,ff,tt,ff,ff,ff,ff,ff,ff] rfl rfl (any_of HT_.out (by kernel_rfl)) (fun _ _ _ h => h) (Or.inl ⟨by rfl, ?_⟩) ?_ ?_
        rotate_left
        ·intro w'
         go_simp
         with_reducible rfl
        rotate_left
        ·simp only [Act.put, List.setIfInBounds_toArray, List.set_cons_zero, List.set_cons_succ, i64_w, i32_w]
         rfl
        refine pure_ (i := 9) (N := some 47) (v := ?_) (a' := ?_) #[tt,tt,ff,ff,tt,tt,ff,ff,tt,tt,ff,ff,ff,ff,ff] rfl rfl (any_of HT_.out (by kernel_rfl)) (fun _ _ _ h => h) (Or.inl ⟨by rfl, ?_⟩) ?_ ?_
        rotate_left
        ·intro w'
         go_simp
         with_reducible rfl
        rotate_left
        ·simp only [Act.put, List.setIfInBounds_toArray, List.set_cons_zero, List.set_cons_succ, i64_w, i32_w]
         rfl
        refine take_ (i := 2) (N := some 40) (v := ?_) (a' := ?_) #[tt,tt,tt,ff,tt,tt,ff,ff,tt,tt,ff,ff,ff,ff,ff] rfl rfl (take_ofW HT_.out HW_.out (by kernel_rfl)) (fun _ _ _ h => h) (Or.inl ⟨by rfl, ?_⟩) hHeld ?_ ?_
        rotate_left
        ·rintro w' ⟨s0, s1, s2⟩
         go_simp
         with_reducible rfl
        rotate_left
        ·simp only [Act.put, List.setIfInBounds_toArray, List.set_cons_zero, List.set_cons_succ, i64_w, i32_w]
         rfl
        refine take_ (i := 6) (N := some 44) (v := ?_) (a' := ?_) #[tt,tt,tt,ff,tt,tt,tt,ff,tt,tt,ff,ff,ff,ff,ff] rfl rfl (take_ofW HT_.out HW_.out (by kernel_rfl)) (fun _ _ _ h => h) (Or.inl ⟨by rfl, ?_⟩) hHeld ?_ ?_
        rotate_left
        ·rintro w' ⟨s0, s1, s2⟩
         go_simp
         with_reducible rfl
        rotate_left
        ·simp only [Act.put, List.setIfInBounds_toArray, List.set_cons_zero, List.set_cons_succ, i64_w, i32_w]
         rfl
        refine take_ (i := 10) (N := some 48) (v := ?_) (a' := ?_) #[tt,tt,tt,ff,tt,tt,tt,ff,tt,tt,tt,ff,ff,ff,ff] rfl rfl (take_ofW HT_.out HW_.out (by kernel_rfl)) (fun _ _ _ h => h) (Or.inl ⟨by rfl, ?_⟩) hHeld ?_ ?_
        rotate_left
        ·rintro w' ⟨s0, s1, s2⟩
         go_simp
         with_reducible rfl
        rotate_left
        ·simp only [Act.put, List.setIfInBounds_toArray, List.set_cons_zero, List.set_cons_succ, i64_w, i32_w]
         rfl
        refine join_ (σ := Nat) 1 #[tt,tt,tt,tt,tt,tt,tt,tt,tt,tt,tt,tt,tt,tt,ff] (fun s_ => [(41, .int .i64 t190), (45, .int .i64 t192), (49, .int .i64 t194), (8, .pointer (some ⟨s_, 0, none⟩)), (50, .agg #[.int .i64 t190, .int .i64 t192, .int .i64 t194, .int .i64 0, .int .i64 0, .int .i64 0, .int .i64 0])]) (fun s_ w' => (w'.cell? ⟨ad189.block, ad189.off + 2, none⟩ = some (.string (rdOf ByteArray.empty x4_2 2)) ∧ w'.cell? ⟨ad189.block, ad189.off + 1, none⟩ = some (.string (rdOf ByteArray.empty x4_2 1)) ∧ w'.cell? ad189 = some (.string (rdOf ByteArray.empty x4_2 0))) ∧ (Kd.Q Kd.string 9 w' w.heap.size (fun _ => True) (.slice (some ad189) x4_2.length co27) x4_2) ∧ (w'.heap[s_]? = some (.cells #[.int .i64 0, .int .i64 0, .int .i64 0, .int .i64 0, .int .i64 0, .int .i64 0, .int .i64 0] 33 (0, 0))) ∧ (w.heap.size ≤ s_) ∧ (w.heap.size ≤ s_) ∧ (Below w.heap.size w w')) ?_ ?_
        rotate_left
        ·intro hCont
         refine two_ (i := 3) (j := 13) (Ni := some 41) (Nj := some 8) #[tt,tt,tt,tt,tt,tt,tt,ff,tt,tt,tt,ff,ff,ff,ff] #[tt,tt,tt,ff,tt,tt,tt,ff,tt,tt,tt,ff,ff,tt,ff] rfl rfl rfl rfl (two_of HT_.out (by kernel_rfl)) (by decide) (by decide) (fun K hK => ?_) (fun K hK => ?_)
         ·skip
          refine goes_ Tryd.func30 (by kernel_rfl) rfl #[.string (rdOf ByteArray.empty x4_2 2), .int .i64 4, .int .i64 5] (by rfl) rfl rfl (by (try simp only [List.map_toArray, List.map_cons, List.map_nil]); first | done | rfl | (simp only [List.length_drop, List.length_take]; rfl)) ?_
          with_reducible refine (date_number.calls kj2 (rdOf ByteArray.empty x4_2 2) 4 5 t190 _ A19.out).mono ?_
          rintro e w' ⟨rfl, ⟨nd, rfl⟩⟩
          refine ⟨_, rfl, ?_⟩
          refine hK.out _ _ ⟨hHeld.1, hHeld.2.1, hHeld.2.2⟩ (fun hHeld => ?_)
          clear hK K
          refine norm_ (a' := ?_) ?_ ?_
          rotate_left
          ·show Act.put _ (some 41) _ = _
           simp only [Act.put, List.setIfInBounds_toArray, List.set_cons_zero, List.set_cons_succ, i64_w, i32_w]
           rfl
          refine two_ (i := 7) (j := 13) (Ni := some 45) (Nj := some 8) #[tt,tt,tt,tt,tt,tt,tt,tt,tt,tt,tt,ff,ff,ff,ff] #[tt,tt,tt,tt,tt,tt,tt,ff,tt,tt,tt,ff,ff,tt,ff] rfl rfl rfl rfl (two_of HT_.out (by kernel_rfl)) (by decide) (by decide) (fun K hK => ?_) (fun K hK => ?_)
          ·skip
           refine goes_ Tryd.func31 (by kernel_rfl) rfl #[.string (rdOf ByteArray.empty x4_2 1)] (by rfl) rfl rfl (by (try simp only [List.map_toArray, List.map_cons, List.map_nil]); first | done | rfl | (simp only [List.length_drop, List.length_take]; rfl)) ?_
           with_reducible refine (date_month.calls (rdOf ByteArray.empty x4_2 1) t192 _ ?side1 A21.out).mono ?_
           (case side1 => exact Amb.at HG.out (by repeat (first | (with_reducible first | exact HB.out | apply below_alloc | apply pw_below_drewN | apply below_drew1) | exact HB.out)))
           rintro e w29 ⟨rfl, hb⟩
           have HS0_ := (hb.cell (World.block_lt_of_cell? _ _ (hHeld.1))).trans (hHeld.1)
           have HS1_ := (hb.cell (World.block_lt_of_cell? _ _ (hHeld.2.1))).trans (hHeld.2.1)
           have HS2_ := (hb.cell (World.block_lt_of_cell? _ _ (hHeld.2.2))).trans (hHeld.2.2)
           refine ⟨_, rfl, ?_⟩
           have n0_ := Aside0.mk (Kd.Q_below (by (with_reducible repeat (first | apply Kd.Q_alloc | apply Kd.Q_drewN | apply Kd.Q_drew)); exact HO_4.out) hb)
           have n1_ := Aside0.mk (below_step (by repeat (first | (with_reducible first | exact HB.out | apply below_alloc | apply pw_below_drewN | apply below_drew1) | exact HB.out)) hb)
           clear HO_4
           clear HB
           have HO_4 := n0_
           have HB := n1_
           clear n0_ n1_
           (try clear hb)
           (try clear hb2)
           (try clear hk)
           (try clear hi)
           refine hK.out _ _ ⟨HS0_, HS1_, HS2_⟩ (fun hHeld => ?_)
           clear hK K
           refine norm_ (a' := ?_) ?_ ?_
           rotate_left
           ·show Act.put _ (some 45) _ = _
            simp only [Act.put, List.setIfInBounds_toArray, List.set_cons_zero, List.set_cons_succ, i64_w, i32_w]
            rfl
           refine two_ (i := 11) (j := 13) (Ni := some 49) (Nj := some 8) #[tt,tt,tt,tt,tt,tt,tt,tt,tt,tt,tt,tt,ff,ff,ff] #[tt,tt,tt,tt,tt,tt,tt,tt,tt,tt,tt,ff,ff,tt,ff] rfl rfl rfl rfl (two_of HT_.out (by kernel_rfl)) (by decide) (by decide) (fun K hK => ?_) (fun K hK => ?_)
           ·skip
            refine goes_ Tryd.func30 (by kernel_rfl) rfl #[.string (rdOf ByteArray.empty x4_2 0), .int .i64 1, .int .i64 2] (by rfl) rfl rfl (by (try simp only [List.map_toArray, List.map_cons, List.map_nil]); first | done | rfl | (simp only [List.length_drop, List.length_take]; rfl)) ?_
            with_reducible refine (date_number.calls kj2 (rdOf ByteArray.empty x4_2 0) 1 2 t194 _ A23.out).mono ?_
            rintro e w' ⟨rfl, ⟨nd, rfl⟩⟩
            refine ⟨_, rfl, ?_⟩
            refine hK.out _ _ ⟨hHeld.1, hHeld.2.1, hHeld.2.2⟩ (fun hHeld => ?_)
            clear hK K
            refine norm_ (a' := ?_) ?_ ?_
            rotate_left
            ·show Act.put _ (some 49) _ = _
             simp only [Act.put, List.setIfInBounds_toArray, List.set_cons_zero, List.set_cons_succ, i64_w, i32_w]
             rfl
            refine pure_ (i := 12) (N := some 50) (v := ?_) (a' := ?_) #[tt,tt,tt,tt,tt,tt,tt,tt,tt,tt,tt,tt,tt,ff,ff] rfl rfl (any_of HT_.out (by kernel_rfl)) (fun _ _ _ h => h) (Or.inl ⟨by rfl, ?_⟩) ?_ ?_
            rotate_left
            ·intro w'
             go_simp
             with_reducible rfl
            rotate_left
            ·simp only [Act.put, List.setIfInBounds_toArray, List.set_cons_zero, List.set_cons_succ, i64_w, i32_w]
             rfl
            refine one_ (i := 13) (N := some 8) #[tt,tt,tt,tt,tt,tt,tt,tt,tt,tt,tt,tt,tt,tt,ff] rfl rfl (one_of HT_.out (by kernel_rfl)) (by decide) (fun K hK => ?_)
            refine box_step ?hg (N := 8) ?hd (cs := #[.int .i64 0, .int .i64 0, .int .i64 0, .int .i64 0, .int .i64 0, .int .i64 0, .int .i64 0]) (t := 33) ?hr ?_; (case hd => rfl); (case hg => rfl); (case hr => first | (go_simp; done) | (go_simp; rfl))
            intro gb195 hg w30 hbox hb
            have HS0_ := (hb.cell (World.block_lt_of_cell? _ _ (hHeld.1))).trans (hHeld.1)
            have HS1_ := (hb.cell (World.block_lt_of_cell? _ _ (hHeld.2.1))).trans (hHeld.2.1)
            have HS2_ := (hb.cell (World.block_lt_of_cell? _ _ (hHeld.2.2))).trans (hHeld.2.2)
            have n0_ := Aside0.mk (Kd.Q_below (by (with_reducible repeat (first | apply Kd.Q_alloc | apply Kd.Q_drewN | apply Kd.Q_drew)); exact HO_4.out) hb)
            have n1_ := Aside0.mk (below_step (by repeat (first | (with_reducible first | exact HB.out | apply below_alloc | apply pw_below_drewN | apply below_drew1) | exact HB.out)) hb)
            have n2_ := Aside0.mk (hbox)
            have n3_ := Aside0.mk ((by rw [hg]; exact (below_size (by repeat (first | (with_reducible first | exact HB.out | apply below_alloc | apply pw_below_drewN | apply below_drew1) | exact HB.out))) : w.heap.size ≤ gb195))
            have n4_ := Aside0.mk ((by rw [hg]; exact (below_size (by repeat (first | (with_reducible first | exact HB.out | apply below_alloc | apply pw_below_drewN | apply below_drew1) | exact HB.out))) : w.heap.size ≤ gb195))
            clear HO_4
            clear HB
            have HO_4 := n0_
            have HB := n1_
            have BK195 := n2_
            have GW195 := n3_
            have GE195 := n4_
            clear n0_ n1_ n2_ n3_ n4_
            clear hb hbox hg
            refine hK.out _ _ ⟨HS0_, HS1_, HS2_⟩ (fun hHeld => ?_)
            clear hK K
            refine norm_ (a' := ?_) ?_ ?_
            rotate_left
            ·show Act.put _ (some 8) _ = _
             simp only [Act.put, List.setIfInBounds_toArray, List.set_cons_zero, List.set_cons_succ, i64_w, i32_w]
             rfl
            exact norm_ (by simp only [putAll, Act.put, List.setIfInBounds_toArray, List.set_cons_zero, List.set_cons_succ]) (hCont (gb195) _ ⟨hHeld, (by (with_reducible repeat (first | apply Kd.Q_alloc | apply Kd.Q_drewN | apply Kd.Q_drew)); exact HO_4.out), (by (with_reducible repeat (first | refine blk_drewN ?_ _ | refine blk_drew ?_ | refine blk_alloc ?_ _)); exact BK195.out), GW195.out, GE195.out, (by repeat (first | (with_reducible first | exact HB.out | apply below_alloc | apply pw_below_drewN | apply below_drew1 | refine below_set ?_ GE195.out) | exact HB.out))⟩)
           ·skip
            refine box_step ?hg (N := 8) ?hd (cs := #[.int .i64 0, .int .i64 0, .int .i64 0, .int .i64 0, .int .i64 0, .int .i64 0, .int .i64 0]) (t := 33) ?hr ?_; (case hd => rfl); (case hg => rfl); (case hr => first | (go_simp; done) | (go_simp; rfl))
            intro gb195 hg w30 hbox hb
            have HS0_ := (hb.cell (World.block_lt_of_cell? _ _ (hHeld.1))).trans (hHeld.1)
            have HS1_ := (hb.cell (World.block_lt_of_cell? _ _ (hHeld.2.1))).trans (hHeld.2.1)
            have HS2_ := (hb.cell (World.block_lt_of_cell? _ _ (hHeld.2.2))).trans (hHeld.2.2)
            have n0_ := Aside0.mk (Kd.Q_below (by (with_reducible repeat (first | apply Kd.Q_alloc | apply Kd.Q_drewN | apply Kd.Q_drew)); exact HO_4.out) hb)
            have n1_ := Aside0.mk (below_step (by repeat (first | (with_reducible first | exact HB.out | apply below_alloc | apply pw_below_drewN | apply below_drew1) | exact HB.out)) hb)
            have n2_ := Aside0.mk (hbox)
            have n3_ := Aside0.mk ((by rw [hg]; exact (below_size (by repeat (first | (with_reducible first | exact HB.out | apply below_alloc | apply pw_below_drewN | apply below_drew1) | exact HB.out))) : w.heap.size ≤ gb195))
            have n4_ := Aside0.mk ((by rw [hg]; exact (below_size (by repeat (first | (with_reducible first | exact HB.out | apply below_alloc | apply pw_below_drewN | apply below_drew1) | exact HB.out))) : w.heap.size ≤ gb195))
            clear HO_4
            clear HB
            have HO_4 := n0_
            have HB := n1_
            have BK195 := n2_
            have GW195 := n3_
            have GE195 := n4_
            clear n0_ n1_ n2_ n3_ n4_
            clear hb hbox hg
            refine hK.out _ _ ⟨HS0_, HS1_, HS2_⟩ (fun hHeld => ?_)
            clear hK K
            refine norm_ (a' := ?_) ?_ ?_
            rotate_left
            ·show Act.put _ (some 8) _ = _
             simp only [Act.put, List.setIfInBounds_toArray, List.set_cons_zero, List.set_cons_succ, i64_w, i32_w]
             rfl
            refine one_ (i := 11) (N := some 49) #[tt,tt,tt,tt,tt,tt,tt,tt,tt,tt,tt,tt,ff,tt,ff] rfl rfl (one_of HT_.out (by kernel_rfl)) (by decide) (fun K hK => ?_)
            refine goes_ Tryd.func30 (by kernel_rfl) rfl #[.string (rdOf ByteArray.empty x4_2 0), .int .i64 1, .int .i64 2] (by rfl) rfl rfl (by (try simp only [List.map_toArray, List.map_cons, List.map_nil]); first | done | rfl | (simp only [List.length_drop, List.length_take]; rfl)) ?_
            with_reducible refine (date_number.calls kj2 (rdOf ByteArray.empty x4_2 0) 1 2 t194 _ A23.out).mono ?_
            rintro e w' ⟨rfl, ⟨nd, rfl⟩⟩
            refine ⟨_, rfl, ?_⟩
            refine hK.out _ _ ⟨hHeld.1, hHeld.2.1, hHeld.2.2⟩ (fun hHeld => ?_)
            clear hK K
            refine norm_ (a' := ?_) ?_ ?_
            rotate_left
            ·show Act.put _ (some 49) _ = _
             simp only [Act.put, List.setIfInBounds_toArray, List.set_cons_zero, List.set_cons_succ, i64_w, i32_w]
             rfl
            refine pure_ (i := 12) (N := some 50) (v := ?_) (a' := ?_) #[tt,tt,tt,tt,tt,tt,tt,tt,tt,tt,tt,tt,tt,tt,ff] rfl rfl (any_of HT_.out (by kernel_rfl)) (fun _ _ _ h => h) (Or.inl ⟨by rfl, ?_⟩) ?_ ?_
            rotate_left
            ·intro w'
             go_simp
             with_reducible rfl
            rotate_left
            ·simp only [Act.put, List.setIfInBounds_toArray, List.set_cons_zero, List.set_cons_succ, i64_w, i32_w]
             rfl
            exact norm_ (by simp only [putAll, Act.put, List.setIfInBounds_toArray, List.set_cons_zero, List.set_cons_succ]) (hCont (gb195) _ ⟨hHeld, (by (with_reducible repeat (first | apply Kd.Q_alloc | apply Kd.Q_drewN | apply Kd.Q_drew)); exact HO_4.out), (by (with_reducible repeat (first | refine blk_drewN ?_ _ | refine blk_drew ?_ | refine blk_alloc ?_ _)); exact BK195.out), GW195.out, GE195.out, (by repeat (first | (with_reducible first | exact HB.out | apply below_alloc | apply pw_below_drewN | apply below_drew1 | refine below_set ?_ GE195.out) | exact HB.out))⟩)
          ·skip
           refine box_step ?hg (N := 8) ?hd (cs := #[.int .i64 0, .int .i64 0, .int .i64 0, .int .i64 0, .int .i64 0, .int .i64 0, .int .i64 0]) (t := 33) ?hr ?_; (case hd => rfl); (case hg => rfl); (case hr => first | (go_simp; done) | (go_simp; rfl))
           intro gb195 hg w29 hbox hb
           have HS0_ := (hb.cell (World.block_lt_of_cell? _ _ (hHeld.1))).trans (hHeld.1)
           have HS1_ := (hb.cell (World.block_lt_of_cell? _ _ (hHeld.2.1))).trans (hHeld.2.1)
           have HS2_ := (hb.cell (World.block_lt_of_cell? _ _ (hHeld.2.2))).trans (hHeld.2.2)
           have n0_ := Aside0.mk (Kd.Q_below (by (with_reducible repeat (first | apply Kd.Q_alloc | apply Kd.Q_drewN | apply Kd.Q_drew)); exact HO_4.out) hb)
           have n1_ := Aside0.mk (below_step (by repeat (first | (with_reducible first | exact HB.out | apply below_alloc | apply pw_below_drewN | apply below_drew1) | exact HB.out)) hb)
           have n2_ := Aside0.mk (hbox)
           have n3_ := Aside0.mk ((by rw [hg]; exact (below_size (by repeat (first | (with_reducible first | exact HB.out | apply below_alloc | apply pw_below_drewN | apply below_drew1) | exact HB.out))) : w.heap.size ≤ gb195))
           have n4_ := Aside0.mk ((by rw [hg]; exact (below_size (by repeat (first | (with_reducible first | exact HB.out | apply below_alloc | apply pw_below_drewN | apply below_drew1) | exact HB.out))) : w.heap.size ≤ gb195))
           clear HO_4
           clear HB
           have HO_4 := n0_
           have HB := n1_
           have BK195 := n2_
           have GW195 := n3_
           have GE195 := n4_
           clear n0_ n1_ n2_ n3_ n4_
           clear hb hbox hg
           refine hK.out _ _ ⟨HS0_, HS1_, HS2_⟩ (fun hHeld => ?_)
           clear hK K
           refine norm_ (a' := ?_) ?_ ?_
           rotate_left
           ·show Act.put _ (some 8) _ = _
            simp only [Act.put, List.setIfInBounds_toArray, List.set_cons_zero, List.set_cons_succ, i64_w, i32_w]
            rfl
           refine one_ (i := 7) (N := some 45) #[tt,tt,tt,tt,tt,tt,tt,tt,tt,tt,tt,ff,ff,tt,ff] rfl rfl (one_of HT_.out (by kernel_rfl)) (by decide) (fun K hK => ?_)
           refine goes_ Tryd.func31 (by kernel_rfl) rfl #[.string (rdOf ByteArray.empty x4_2 1)] (by rfl) rfl rfl (by (try simp only [List.map_toArray, List.map_cons, List.map_nil]); first | done | rfl | (simp only [List.length_drop, List.length_take]; rfl)) ?_
           with_reducible refine (date_month.calls (rdOf ByteArray.empty x4_2 1) t192 _ ?side1 A21.out).mono ?_
           (case side1 => exact Amb.at HG.out (by repeat (first | (with_reducible first | exact HB.out | apply below_alloc | apply pw_below_drewN | apply below_drew1 | refine below_set ?_ GE195.out) | exact HB.out)))
           rintro e w30 ⟨rfl, hb⟩
           have HS0_ := (hb.cell (World.block_lt_of_cell? _ _ (hHeld.1))).trans (hHeld.1)
           have HS1_ := (hb.cell (World.block_lt_of_cell? _ _ (hHeld.2.1))).trans (hHeld.2.1)
           have HS2_ := (hb.cell (World.block_lt_of_cell? _ _ (hHeld.2.2))).trans (hHeld.2.2)
           refine ⟨_, rfl, ?_⟩
           have n0_ := Aside0.mk (Kd.Q_below (by (with_reducible repeat (first | apply Kd.Q_alloc | apply Kd.Q_drewN | apply Kd.Q_drew)); exact HO_4.out) hb)
           have n1_ := Aside0.mk (blk_below (g := gb195) (o := .cells #[.int .i64 0, .int .i64 0, .int .i64 0, .int .i64 0, .int .i64 0, .int .i64 0, .int .i64 0] 33 (0, 0)) (by (with_reducible repeat (first | refine blk_drewN ?_ _ | refine blk_drew ?_ | refine blk_alloc ?_ _)); exact BK195.out) hb)
           have n2_ := Aside0.mk (below_step (by repeat (first | (with_reducible first | exact HB.out | apply below_alloc | apply pw_below_drewN | apply below_drew1 | refine below_set ?_ GE195.out) | exact HB.out)) hb)
           clear HO_4
           clear BK195
           clear HB
           have HO_4 := n0_
           have BK195 := n1_
           have HB := n2_
           clear n0_ n1_ n2_
           (try clear hb)
           (try clear hb2)
           (try clear hk)
           (try clear hi)
           refine hK.out _ _ ⟨HS0_, HS1_, HS2_⟩ (fun hHeld => ?_)
           clear hK K
           refine norm_ (a' := ?_) ?_ ?_
           rotate_left
           ·show Act.put _ (some 45) _ = _
            simp only [Act.put, List.setIfInBounds_toArray, List.set_cons_zero, List.set_cons_succ, i64_w, i32_w]
            rfl
           refine one_ (i := 11) (N := some 49) #[tt,tt,tt,tt,tt,tt,tt,tt,tt,tt,tt,tt,ff,tt,ff] rfl rfl (one_of HT_.out (by kernel_rfl)) (by decide) (fun K hK => ?_)
           refine goes_ Tryd.func30 (by kernel_rfl) rfl #[.string (rdOf ByteArray.empty x4_2 0), .int .i64 1, .int .i64 2] (by rfl) rfl rfl (by (try simp only [List.map_toArray, List.map_cons, List.map_nil]); first | done | rfl | (simp only [List.length_drop, List.length_take]; rfl)) ?_
           with_reducible refine (date_number.calls kj2 (rdOf ByteArray.empty x4_2 0) 1 2 t194 _ A23.out).mono ?_
           rintro e w' ⟨rfl, ⟨nd, rfl⟩⟩
           refine ⟨_, rfl, ?_⟩
           refine hK.out _ _ ⟨hHeld.1, hHeld.2.1, hHeld.2.2⟩ (fun hHeld => ?_)
           clear hK K
           refine norm_ (a' := ?_) ?_ ?_
           rotate_left
           ·show Act.put _ (some 49) _ = _
            simp only [Act.put, List.setIfInBounds_toArray, List.set_cons_zero, List.set_cons_succ, i64_w, i32_w]
            rfl
           refine pure_ (i := 12) (N := some 50) (v := ?_) (a' := ?_) #[tt,tt,tt,tt,tt,tt,tt,tt,tt,tt,tt,tt,tt,tt,ff] rfl rfl (any_of HT_.out (by kernel_rfl)) (fun _ _ _ h => h) (Or.inl ⟨by rfl, ?_⟩) ?_ ?_
           rotate_left
           ·intro w'
            go_simp
            with_reducible rfl
           rotate_left
           ·simp only [Act.put, List.setIfInBounds_toArray, List.set_cons_zero, List.set_cons_succ, i64_w, i32_w]
            rfl
           exact norm_ (by simp only [putAll, Act.put, List.setIfInBounds_toArray, List.set_cons_zero, List.set_cons_succ]) (hCont (gb195) _ ⟨hHeld, (by (with_reducible repeat (first | apply Kd.Q_alloc | apply Kd.Q_drewN | apply Kd.Q_drew)); exact HO_4.out), (by (with_reducible repeat (first | refine blk_drewN ?_ _ | refine blk_drew ?_ | refine blk_alloc ?_ _)); exact BK195.out), GW195.out, GE195.out, (by repeat (first | (with_reducible first | exact HB.out | apply below_alloc | apply pw_below_drewN | apply below_drew1 | refine below_set ?_ GE195.out) | exact HB.out))⟩)
         ·skip
          refine box_step ?hg (N := 8) ?hd (cs := #[.int .i64 0, .int .i64 0, .int .i64 0, .int .i64 0, .int .i64 0, .int .i64 0, .int .i64 0]) (t := 33) ?hr ?_; (case hd => rfl); (case hg => rfl); (case hr => first | (go_simp; done) | (go_simp; rfl))
          intro gb195 hg w29 hbox hb
          have HS0_ := (hb.cell (World.block_lt_of_cell? _ _ (hHeld.1))).trans (hHeld.1)
          have HS1_ := (hb.cell (World.block_lt_of_cell? _ _ (hHeld.2.1))).trans (hHeld.2.1)
          have HS2_ := (hb.cell (World.block_lt_of_cell? _ _ (hHeld.2.2))).trans (hHeld.2.2)
          have n0_ := Aside0.mk (Kd.Q_below (by (with_reducible repeat (first | apply Kd.Q_alloc | apply Kd.Q_drewN | apply Kd.Q_drew)); exact HO_4.out) hb)
          have n1_ := Aside0.mk (below_step (by repeat (first | (with_reducible first | exact HB.out | apply below_alloc | apply pw_below_drewN | apply below_drew1) | exact HB.out)) hb)
          have n2_ := Aside0.mk (hbox)
          have n3_ := Aside0.mk ((by rw [hg]; exact (below_size (by repeat (first | (with_reducible first | exact HB.out | apply below_alloc | apply pw_below_drewN | apply below_drew1) | exact HB.out))) : w.heap.size ≤ gb195))
          have n4_ := Aside0.mk ((by rw [hg]; exact (below_size (by repeat (first | (with_reducible first | exact HB.out | apply below_alloc | apply pw_below_drewN | apply below_drew1) | exact HB.out))) : w.heap.size ≤ gb195))
          clear HO_4
          clear HB
          have HO_4 := n0_
          have HB := n1_
          have BK195 := n2_
          have GW195 := n3_
          have GE195 := n4_
          clear n0_ n1_ n2_ n3_ n4_
          clear hb hbox hg
          refine hK.out _ _ ⟨HS0_, HS1_, HS2_⟩ (fun hHeld => ?_)
          clear hK K
          refine norm_ (a' := ?_) ?_ ?_
          rotate_left
          ·show Act.put _ (some 8) _ = _
           simp only [Act.put, List.setIfInBounds_toArray, List.set_cons_zero, List.set_cons_succ, i64_w, i32_w]
           rfl
          refine one_ (i := 3) (N := some 41) #[tt,tt,tt,tt,tt,tt,tt,ff,tt,tt,tt,ff,ff,tt,ff] rfl rfl (one_of HT_.out (by kernel_rfl)) (by decide) (fun K hK => ?_)
          refine goes_ Tryd.func30 (by kernel_rfl) rfl #[.string (rdOf ByteArray.empty x4_2 2), .int .i64 4, .int .i64 5] (by rfl) rfl rfl (by (try simp only [List.map_toArray, List.map_cons, List.map_nil]); first | done | rfl | (simp only [List.length_drop, List.length_take]; rfl)) ?_
          with_reducible refine (date_number.calls kj2 (rdOf ByteArray.empty x4_2 2) 4 5 t190 _ A19.out).mono ?_
          rintro e w' ⟨rfl, ⟨nd, rfl⟩⟩
          refine ⟨_, rfl, ?_⟩
          refine hK.out _ _ ⟨hHeld.1, hHeld.2.1, hHeld.2.2⟩ (fun hHeld => ?_)
          clear hK K
          refine norm_ (a' := ?_) ?_ ?_
          rotate_left
          ·show Act.put _ (some 41) _ = _
           simp only [Act.put, List.setIfInBounds_toArray, List.set_cons_zero, List.set_cons_succ, i64_w, i32_w]
           rfl
          refine one_ (i := 7) (N := some 45) #[tt,tt,tt,tt,tt,tt,tt,tt,tt,tt,tt,ff,ff,tt,ff] rfl rfl (one_of HT_.out (by kernel_rfl)) (by decide) (fun K hK => ?_)
          refine goes_ Tryd.func31 (by kernel_rfl) rfl #[.string (rdOf ByteArray.empty x4_2 1)] (by rfl) rfl rfl (by (try simp only [List.map_toArray, List.map_cons, List.map_nil]); first | done | rfl | (simp only [List.length_drop, List.length_take]; rfl)) ?_
          with_reducible refine (date_month.calls (rdOf ByteArray.empty x4_2 1) t192 _ ?side1 A21.out).mono ?_
          (case side1 => exact Amb.at HG.out (by repeat (first | (with_reducible first | exact HB.out | apply below_alloc | apply pw_below_drewN | apply below_drew1 | refine below_set ?_ GE195.out) | exact HB.out)))
          rintro e w30 ⟨rfl, hb⟩
          have HS0_ := (hb.cell (World.block_lt_of_cell? _ _ (hHeld.1))).trans (hHeld.1)
          have HS1_ := (hb.cell (World.block_lt_of_cell? _ _ (hHeld.2.1))).trans (hHeld.2.1)
          have HS2_ := (hb.cell (World.block_lt_of_cell? _ _ (hHeld.2.2))).trans (hHeld.2.2)
          refine ⟨_, rfl, ?_⟩
          have n0_ := Aside0.mk (Kd.Q_below (by (with_reducible repeat (first | apply Kd.Q_alloc | apply Kd.Q_drewN | apply Kd.Q_drew)); exact HO_4.out) hb)
          have n1_ := Aside0.mk (blk_below (g := gb195) (o := .cells #[.int .i64 0, .int .i64 0, .int .i64 0, .int .i64 0, .int .i64 0, .int .i64 0, .int .i64 0] 33 (0, 0)) (by (with_reducible repeat (first | refine blk_drewN ?_ _ | refine blk_drew ?_ | refine blk_alloc ?_ _)); exact BK195.out) hb)
          have n2_ := Aside0.mk (below_step (by repeat (first | (with_reducible first | exact HB.out | apply below_alloc | apply pw_below_drewN | apply below_drew1 | refine below_set ?_ GE195.out) | exact HB.out)) hb)
          clear HO_4
          clear BK195
          clear HB
          have HO_4 := n0_
          have BK195 := n1_
          have HB := n2_
          clear n0_ n1_ n2_
          (try clear hb)
          (try clear hb2)
          (try clear hk)
          (try clear hi)
          refine hK.out _ _ ⟨HS0_, HS1_, HS2_⟩ (fun hHeld => ?_)
          clear hK K
          refine norm_ (a' := ?_) ?_ ?_
          rotate_left
          ·show Act.put _ (some 45) _ = _
           simp only [Act.put, List.setIfInBounds_toArray, List.set_cons_zero, List.set_cons_succ, i64_w, i32_w]
           rfl
          refine one_ (i := 11) (N := some 49) #[tt,tt,tt,tt,tt,tt,tt,tt,tt,tt,tt,tt,ff,tt,ff] rfl rfl (one_of HT_.out (by kernel_rfl)) (by decide) (fun K hK => ?_)
          refine goes_ Tryd.func30 (by kernel_rfl) rfl #[.string (rdOf ByteArray.empty x4_2 0), .int .i64 1, .int .i64 2] (by rfl) rfl rfl (by (try simp only [List.map_toArray, List.map_cons, List.map_nil]); first | done | rfl | (simp only [List.length_drop, List.length_take]; rfl)) ?_
          with_reducible refine (date_number.calls kj2 (rdOf ByteArray.empty x4_2 0) 1 2 t194 _ A23.out).mono ?_
          rintro e w' ⟨rfl, ⟨nd, rfl⟩⟩
          refine ⟨_, rfl, ?_⟩
          refine hK.out _ _ ⟨hHeld.1, hHeld.2.1, hHeld.2.2⟩ (fun hHeld => ?_)
          clear hK K
          refine norm_ (a' := ?_) ?_ ?_
          rotate_left
          ·show Act.put _ (some 49) _ = _
           simp only [Act.put, List.setIfInBounds_toArray, List.set_cons_zero, List.set_cons_succ, i64_w, i32_w]
           rfl
          refine pure_ (i := 12) (N := some 50) (v := ?_) (a' := ?_) #[tt,tt,tt,tt,tt,tt,tt,tt,tt,tt,tt,tt,tt,tt,ff] rfl rfl (any_of HT_.out (by kernel_rfl)) (fun _ _ _ h => h) (Or.inl ⟨by rfl, ?_⟩) ?_ ?_
          rotate_left
          ·intro w'
           go_simp
           with_reducible rfl
          rotate_left
          ·simp only [Act.put, List.setIfInBounds_toArray, List.set_cons_zero, List.set_cons_succ, i64_w, i32_w]
           rfl
          exact norm_ (by simp only [putAll, Act.put, List.setIfInBounds_toArray, List.set_cons_zero, List.set_cons_succ]) (hCont (gb195) _ ⟨hHeld, (by (with_reducible repeat (first | apply Kd.Q_alloc | apply Kd.Q_drewN | apply Kd.Q_drew)); exact HO_4.out), (by (with_reducible repeat (first | refine blk_drewN ?_ _ | refine blk_drew ?_ | refine blk_alloc ?_ _)); exact BK195.out), GW195.out, GE195.out, (by repeat (first | (with_reducible first | exact HB.out | apply below_alloc | apply pw_below_drewN | apply below_drew1 | refine below_set ?_ GE195.out) | exact HB.out))⟩)
        rintro gb195 w31 ⟨hS_, h0_, h1_, h2_, h3_, h4_⟩
        have n0_ : Aside0 (Kd.Q Kd.string 9 w31 w.heap.size (fun _ => True) (.slice (some ad189) x4_2.length co27) x4_2) := ⟨h0_⟩
        have n1_ : Aside0 (w31.heap[gb195]? = some (.cells #[.int .i64 0, .int .i64 0, .int .i64 0, .int .i64 0, .int .i64 0, .int .i64 0, .int .i64 0] 33 (0, 0))) := ⟨h1_⟩
        have n2_ : Aside0 (w.heap.size ≤ gb195) := ⟨h2_⟩
        have n3_ : Aside0 (w.heap.size ≤ gb195) := ⟨h3_⟩
        have n4_ : Aside0 (Below w.heap.size w w31) := ⟨h4_⟩
        clear HO_4
        clear HB
        clear h0_ h1_ h2_ h3_ h4_
        have HO_4 := n0_
        have BK195 := n1_
        have GW195 := n2_
        have GE195 := n3_
        have HB := n4_
        clear n0_ n1_ n2_ n3_ n4_
        have hHeld : w31.cell? ⟨ad189.block, ad189.off + 2, none⟩ = some (.string (rdOf ByteArray.empty x4_2 2)) ∧ w31.cell? ⟨ad189.block, ad189.off + 1, none⟩ = some (.string (rdOf ByteArray.empty x4_2 1)) ∧ w31.cell? ad189 = some (.string (rdOf ByteArray.empty x4_2 0)) := hS_
        refine norm_ (a' := ?_) ?_ ?_
        rotate_left
        ·simp only [putAll, Act.put, List.setIfInBounds_toArray, List.set_cons_zero, List.set_cons_succ]
         rfl
        refine one_ (i := 14) (N := none) #[tt,tt,tt,tt,tt,tt,tt,tt,tt,tt,tt,tt,tt,tt,tt] rfl rfl (one_of HT_.out (by kernel_rfl)) (by decide) (fun K hK => ?_)
        have hs32 : w31.cell? ⟨gb195, 0, none⟩ = some (.int .i64 0) := (blk_cell BK195.out 0).trans rfl
        have hfs32 := blk_frozen BK195.out 0
        have hs33 : w31.cell? ⟨gb195, 1, none⟩ = some (.int .i64 0) := (blk_cell BK195.out 1).trans rfl
        have hfs33 := blk_frozen BK195.out 1
        have hs34 : w31.cell? ⟨gb195, 2, none⟩ = some (.int .i64 0) := (blk_cell BK195.out 2).trans rfl
        have hfs34 := blk_frozen BK195.out 2
        have hs35 : w31.cell? ⟨gb195, 3, none⟩ = some (.int .i64 0) := (blk_cell BK195.out 3).trans rfl
        have hfs35 := blk_frozen BK195.out 3
        have hs36 : w31.cell? ⟨gb195, 4, none⟩ = some (.int .i64 0) := (blk_cell BK195.out 4).trans rfl
        have hfs36 := blk_frozen BK195.out 4
        have hs37 : w31.cell? ⟨gb195, 5, none⟩ = some (.int .i64 0) := (blk_cell BK195.out 5).trans rfl
        have hfs37 := blk_frozen BK195.out 5
        have hs38 : w31.cell? ⟨gb195, 6, none⟩ = some (.int .i64 0) := (blk_cell BK195.out 6).trans rfl
        have hfs38 := blk_frozen BK195.out 6
        refine skip_ (w1 := ?_) (by rfl) rfl ?_ ?_
        rotate_left
        ·go_simp
         rfl
        refine hK.out _ _ ⟨((cell_far (p := ⟨gb195, _, none⟩) (by first | exact Kd.own_blk (Kd.Q_ne HO_4.out BK195.out (by decide)) | (rw [add_block]; exact Kd.own_blk (Kd.Q_ne HO_4.out BK195.out (by decide))) | (show (Addr.add _ _).block ≠ _; rw [add_block]; exact Kd.own_blk (Kd.Q_ne HO_4.out BK195.out (by decide))) | (dsimp only; exact Kd.own_blk (Kd.Q_ne HO_4.out BK195.out (by decide)))) _).trans (((cell_far (p := ⟨gb195, _, none⟩) (by first | exact Kd.own_blk (Kd.Q_ne HO_4.out BK195.out (by decide)) | (rw [add_block]; exact Kd.own_blk (Kd.Q_ne HO_4.out BK195.out (by decide))) | (show (Addr.add _ _).block ≠ _; rw [add_block]; exact Kd.own_blk (Kd.Q_ne HO_4.out BK195.out (by decide))) | (dsimp only; exact Kd.own_blk (Kd.Q_ne HO_4.out BK195.out (by decide)))) _).trans (((cell_far (p := ⟨gb195, _, none⟩) (by first | exact Kd.own_blk (Kd.Q_ne HO_4.out BK195.out (by decide)) | (rw [add_block]; exact Kd.own_blk (Kd.Q_ne HO_4.out BK195.out (by decide))) | (show (Addr.add _ _).block ≠ _; rw [add_block]; exact Kd.own_blk (Kd.Q_ne HO_4.out BK195.out (by decide))) | (dsimp only; exact Kd.own_blk (Kd.Q_ne HO_4.out BK195.out (by decide)))) _).trans (((cell_far (p := ⟨gb195, _, none⟩) (by first | exact Kd.own_blk (Kd.Q_ne HO_4.out BK195.out (by decide)) | (rw [add_block]; exact Kd.own_blk (Kd.Q_ne HO_4.out BK195.out (by decide))) | (show (Addr.add _ _).block ≠ _; rw [add_block]; exact Kd.own_blk (Kd.Q_ne HO_4.out BK195.out (by decide))) | (dsimp only; exact Kd.own_blk (Kd.Q_ne HO_4.out BK195.out (by decide)))) _).trans (((cell_far (p := ⟨gb195, _, none⟩) (by first | exact Kd.own_blk (Kd.Q_ne HO_4.out BK195.out (by decide)) | (rw [add_block]; exact Kd.own_blk (Kd.Q_ne HO_4.out BK195.out (by decide))) | (show (Addr.add _ _).block ≠ _; rw [add_block]; exact Kd.own_blk (Kd.Q_ne HO_4.out BK195.out (by decide))) | (dsimp only; exact Kd.own_blk (Kd.Q_ne HO_4.out BK195.out (by decide)))) _).trans (((cell_far (p := ⟨gb195, _, none⟩) (by first | exact Kd.own_blk (Kd.Q_ne HO_4.out BK195.out (by decide)) | (rw [add_block]; exact Kd.own_blk (Kd.Q_ne HO_4.out BK195.out (by decide))) | (show (Addr.add _ _).block ≠ _; rw [add_block]; exact Kd.own_blk (Kd.Q_ne HO_4.out BK195.out (by decide))) | (dsimp only; exact Kd.own_blk (Kd.Q_ne HO_4.out BK195.out (by decide)))) _).trans (((cell_far (p := ⟨gb195, _, none⟩) (by first | exact Kd.own_blk (Kd.Q_ne HO_4.out BK195.out (by decide)) | (rw [add_block]; exact Kd.own_blk (Kd.Q_ne HO_4.out BK195.out (by decide))) | (show (Addr.add _ _).block ≠ _; rw [add_block]; exact Kd.own_blk (Kd.Q_ne HO_4.out BK195.out (by decide))) | (dsimp only; exact Kd.own_blk (Kd.Q_ne HO_4.out BK195.out (by decide)))) _).trans (hHeld.1)))))))))))))), ((cell_far (p := ⟨gb195, _, none⟩) (by first | exact Kd.own_blk (Kd.Q_ne HO_4.out BK195.out (by decide)) | (rw [add_block]; exact Kd.own_blk (Kd.Q_ne HO_4.out BK195.out (by decide))) | (show (Addr.add _ _).block ≠ _; rw [add_block]; exact Kd.own_blk (Kd.Q_ne HO_4.out BK195.out (by decide))) | (dsimp only; exact Kd.own_blk (Kd.Q_ne HO_4.out BK195.out (by decide)))) _).trans (((cell_far (p := ⟨gb195, _, none⟩) (by first | exact Kd.own_blk (Kd.Q_ne HO_4.out BK195.out (by decide)) | (rw [add_block]; exact Kd.own_blk (Kd.Q_ne HO_4.out BK195.out (by decide))) | (show (Addr.add _ _).block ≠ _; rw [add_block]; exact Kd.own_blk (Kd.Q_ne HO_4.out BK195.out (by decide))) | (dsimp only; exact Kd.own_blk (Kd.Q_ne HO_4.out BK195.out (by decide)))) _).trans (((cell_far (p := ⟨gb195, _, none⟩) (by first | exact Kd.own_blk (Kd.Q_ne HO_4.out BK195.out (by decide)) | (rw [add_block]; exact Kd.own_blk (Kd.Q_ne HO_4.out BK195.out (by decide))) | (show (Addr.add _ _).block ≠ _; rw [add_block]; exact Kd.own_blk (Kd.Q_ne HO_4.out BK195.out (by decide))) | (dsimp only; exact Kd.own_blk (Kd.Q_ne HO_4.out BK195.out (by decide)))) _).trans (((cell_far (p := ⟨gb195, _, none⟩) (by first | exact Kd.own_blk (Kd.Q_ne HO_4.out BK195.out (by decide)) | (rw [add_block]; exact Kd.own_blk (Kd.Q_ne HO_4.out BK195.out (by decide))) | (show (Addr.add _ _).block ≠ _; rw [add_block]; exact Kd.own_blk (Kd.Q_ne HO_4.out BK195.out (by decide))) | (dsimp only; exact Kd.own_blk (Kd.Q_ne HO_4.out BK195.out (by decide)))) _).trans (((cell_far (p := ⟨gb195, _, none⟩) (by first | exact Kd.own_blk (Kd.Q_ne HO_4.out BK195.out (by decide)) | (rw [add_block]; exact Kd.own_blk (Kd.Q_ne HO_4.out BK195.out (by decide))) | (show (Addr.add _ _).block ≠ _; rw [add_block]; exact Kd.own_blk (Kd.Q_ne HO_4.out BK195.out (by decide))) | (dsimp only; exact Kd.own_blk (Kd.Q_ne HO_4.out BK195.out (by decide)))) _).trans (((cell_far (p := ⟨gb195, _, none⟩) (by first | exact Kd.own_blk (Kd.Q_ne HO_4.out BK195.out (by decide)) | (rw [add_block]; exact Kd.own_blk (Kd.Q_ne HO_4.out BK195.out (by decide))) | (show (Addr.add _ _).block ≠ _; rw [add_block]; exact Kd.own_blk (Kd.Q_ne HO_4.out BK195.out (by decide))) | (dsimp only; exact Kd.own_blk (Kd.Q_ne HO_4.out BK195.out (by decide)))) _).trans (((cell_far (p := ⟨gb195, _, none⟩) (by first | exact Kd.own_blk (Kd.Q_ne HO_4.out BK195.out (by decide)) | (rw [add_block]; exact Kd.own_blk (Kd.Q_ne HO_4.out BK195.out (by decide))) | (show (Addr.add _ _).block ≠ _; rw [add_block]; exact Kd.own_blk (Kd.Q_ne HO_4.out BK195.out (by decide))) | (dsimp only; exact Kd.own_blk (Kd.Q_ne HO_4.out BK195.out (by decide)))) _).trans (hHeld.2.1)))))))))))))), ((cell_far (p := ⟨gb195, _, none⟩) (by first | exact Kd.own_blk (Kd.Q_ne HO_4.out BK195.out (by decide)) | (rw [add_block]; exact Kd.own_blk (Kd.Q_ne HO_4.out BK195.out (by decide))) | (show (Addr.add _ _).block ≠ _; rw [add_block]; exact Kd.own_blk (Kd.Q_ne HO_4.out BK195.out (by decide))) | (dsimp only; exact Kd.own_blk (Kd.Q_ne HO_4.out BK195.out (by decide)))) _).trans (((cell_far (p := ⟨gb195, _, none⟩) (by first | exact Kd.own_blk (Kd.Q_ne HO_4.out BK195.out (by decide)) | (rw [add_block]; exact Kd.own_blk (Kd.Q_ne HO_4.out BK195.out (by decide))) | (show (Addr.add _ _).block ≠ _; rw [add_block]; exact Kd.own_blk (Kd.Q_ne HO_4.out BK195.out (by decide))) | (dsimp only; exact Kd.own_blk (Kd.Q_ne HO_4.out BK195.out (by decide)))) _).trans (((cell_far (p := ⟨gb195, _, none⟩) (by first | exact Kd.own_blk (Kd.Q_ne HO_4.out BK195.out (by decide)) | (rw [add_block]; exact Kd.own_blk (Kd.Q_ne HO_4.out BK195.out (by decide))) | (show (Addr.add _ _).block ≠ _; rw [add_block]; exact Kd.own_blk (Kd.Q_ne HO_4.out BK195.out (by decide))) | (dsimp only; exact Kd.own_blk (Kd.Q_ne HO_4.out BK195.out (by decide)))) _).trans (((cell_far (p := ⟨gb195, _, none⟩) (by first | exact Kd.own_blk (Kd.Q_ne HO_4.out BK195.out (by decide)) | (rw [add_block]; exact Kd.own_blk (Kd.Q_ne HO_4.out BK195.out (by decide))) | (show (Addr.add _ _).block ≠ _; rw [add_block]; exact Kd.own_blk (Kd.Q_ne HO_4.out BK195.out (by decide))) | (dsimp only; exact Kd.own_blk (Kd.Q_ne HO_4.out BK195.out (by decide)))) _).trans (((cell_far (p := ⟨gb195, _, none⟩) (by first | exact Kd.own_blk (Kd.Q_ne HO_4.out BK195.out (by decide)) | (rw [add_block]; exact Kd.own_blk (Kd.Q_ne HO_4.out BK195.out (by decide))) | (show (Addr.add _ _).block ≠ _; rw [add_block]; exact Kd.own_blk (Kd.Q_ne HO_4.out BK195.out (by decide))) | (dsimp only; exact Kd.own_blk (Kd.Q_ne HO_4.out BK195.out (by decide)))) _).trans (((cell_far (p := ⟨gb195, _, none⟩) (by first | exact Kd.own_blk (Kd.Q_ne HO_4.out BK195.out (by decide)) | (rw [add_block]; exact Kd.own_blk (Kd.Q_ne HO_4.out BK195.out (by decide))) | (show (Addr.add _ _).block ≠ _; rw [add_block]; exact Kd.own_blk (Kd.Q_ne HO_4.out BK195.out (by decide))) | (dsimp only; exact Kd.own_blk (Kd.Q_ne HO_4.out BK195.out (by decide)))) _).trans (((cell_far (p := ⟨gb195, _, none⟩) (by first | exact Kd.own_blk (Kd.Q_ne HO_4.out BK195.out (by decide)) | (rw [add_block]; exact Kd.own_blk (Kd.Q_ne HO_4.out BK195.out (by decide))) | (show (Addr.add _ _).block ≠ _; rw [add_block]; exact Kd.own_blk (Kd.Q_ne HO_4.out BK195.out (by decide))) | (dsimp only; exact Kd.own_blk (Kd.Q_ne HO_4.out BK195.out (by decide)))) _).trans (hHeld.2.2))))))))))))))⟩ (fun hHeld => ?_)
        clear hK K
        refine done_ (done_of HT_.out (by kernel_rfl)) ?_
        have p196 : 0 ≤ (4 : Int) := (by omega)
        have q196 : 4 < (x4_2.length : Int) := of_decide_eq_true (by first | (with_reducible assumption) | assumption)
        obtain ⟨ad196, e196, hx196_0⟩ := Kd.at_string (Kd.Q_reads' HO_4.out).2.2 4 p196 q196
        obtain rfl : ad189 = ad196 := (by injection e196)
        (try simp only [show (4 : Int).toNat = 4 from rfl, Nat.reduceMul, Nat.reduceEqDiff, Go.Addr.add, ↓reduceIte] at hx196_0)
        have qi196 : (4 < x4_2.length) = True := eq_true (by omega)
        (try rw [show ((4 : Int)).toNat = 4 from rfl] at hx196_0)
        have hn196_0 : ad189.block ≠ gb195 := Kd.own_blk (Kd.Q_ne HO_4.out BK195.out (by decide))
        have hn196_1 : ad189.block ≠ gb195 := Kd.own_blk (Kd.Q_ne HO_4.out BK195.out (by decide))
        have hn196_2 : ad189.block ≠ gb195 := Kd.own_blk (Kd.Q_ne HO_4.out BK195.out (by decide))
        have hn196_3 : ad189.block ≠ gb195 := Kd.own_blk (Kd.Q_ne HO_4.out BK195.out (by decide))
        have hn196_4 : ad189.block ≠ gb195 := Kd.own_blk (Kd.Q_ne HO_4.out BK195.out (by decide))
        have hn196_5 : ad189.block ≠ gb195 := Kd.own_blk (Kd.Q_ne HO_4.out BK195.out (by decide))
        have hn196_6 : ad189.block ≠ gb195 := Kd.own_blk (Kd.Q_ne HO_4.out BK195.out (by decide))
        replace hx196_0 := (cell_far (p := ⟨gb195, 0, none⟩) (by first | (rw [add_block]; exact hn196_0) | (show (Addr.add _ _).block ≠ _; rw [add_block]; exact hn196_0) | exact hn196_0) (.int .i64 t190)).trans hx196_0
        replace hx196_0 := (cell_far (p := ⟨gb195, 1, none⟩) (by first | (rw [add_block]; exact hn196_1) | (show (Addr.add _ _).block ≠ _; rw [add_block]; exact hn196_1) | exact hn196_1) (.int .i64 t192)).trans hx196_0
        replace hx196_0 := (cell_far (p := ⟨gb195, 2, none⟩) (by first | (rw [add_block]; exact hn196_2) | (show (Addr.add _ _).block ≠ _; rw [add_block]; exact hn196_2) | exact hn196_2) (.int .i64 t194)).trans hx196_0
        replace hx196_0 := (cell_far (p := ⟨gb195, 3, none⟩) (by first | (rw [add_block]; exact hn196_3) | (show (Addr.add _ _).block ≠ _; rw [add_block]; exact hn196_3) | exact hn196_3) (.int .i64 0)).trans hx196_0
        replace hx196_0 := (cell_far (p := ⟨gb195, 4, none⟩) (by first | (rw [add_block]; exact hn196_4) | (show (Addr.add _ _).block ≠ _; rw [add_block]; exact hn196_4) | exact hn196_4) (.int .i64 0)).trans hx196_0
        replace hx196_0 := (cell_far (p := ⟨gb195, 5, none⟩) (by first | (rw [add_block]; exact hn196_5) | (show (Addr.add _ _).block ≠ _; rw [add_block]; exact hn196_5) | exact hn196_5) (.int .i64 0)).trans hx196_0
        replace hx196_0 := (cell_far (p := ⟨gb195, 6, none⟩) (by first | (rw [add_block]; exact hn196_6) | (show (Addr.add _ _).block ≠ _; rw [add_block]; exact hn196_6) | exact hn196_6) (.int .i64 0)).trans hx196_0
        clear hn196_0
        clear hn196_1
        clear hn196_2
        clear hn196_3
        clear hn196_4
        clear hn196_5
        clear hn196_6
        replace p196 := eq_true p196
        replace q196 := eq_true q196
        go_upto_region 13 with (first | ((with_reducible refine gate_callee (f := 32) rfl ?_); refine goesL_ (some 55) rfl rfl Tryd.func32 (by kernel_rfl) rfl #[.string (rdOf ByteArray.empty x4_2 4)] rfl (by (try simp only [List.map_toArray, List.map_cons, List.map_nil]); first | done | rfl | (simp only [List.length_drop, List.length_take]; rfl)) ?_; (with_reducible refine (date_zone.calls kj2 (rdOf ByteArray.empty x4_2 4) t197 t198 _ A25.out).mono ?_); rintro e w39 ⟨rfl, hb⟩; refine ⟨_, rfl, ?_⟩; have n0_ := Aside0.mk (Kd.Q_below (by (with_reducible repeat (first | apply Kd.Q_alloc | apply Kd.Q_drewN | apply Kd.Q_drew)); exact (Kd.Q_mono (Kd.Q_far (p := ⟨gb195, 6, none⟩) (Kd.Q_far (p := ⟨gb195, 5, none⟩) (Kd.Q_far (p := ⟨gb195, 4, none⟩) (Kd.Q_far (p := ⟨gb195, 3, none⟩) (Kd.Q_far (p := ⟨gb195, 2, none⟩) (Kd.Q_far (p := ⟨gb195, 1, none⟩) (Kd.Q_far (p := ⟨gb195, 0, none⟩) (Kd.Q_types HO_4.out BK195.out (by decide)) (fun _ hk => hk.2) (.int .i64 t190)) (fun _ hk => hk.2) (.int .i64 t192)) (fun _ hk => hk.2) (.int .i64 t194)) (fun _ hk => hk.2) (.int .i64 0)) (fun _ hk => hk.2) (.int .i64 0)) (fun _ hk => hk.2) (.int .i64 0)) (fun _ hk => hk.2) (.int .i64 0)) (fun _ h_ => h_.1))) hb); have n1_ := Aside0.mk (blk_below (g := gb195) (o := .cells #[.int .i64 t190, .int .i64 t192, .int .i64 t194, .int .i64 0, .int .i64 0, .int .i64 0, .int .i64 0] 33 (0, 0)) (by (with_reducible repeat (first | refine blk_drewN ?_ _ | refine blk_drew ?_ | refine blk_alloc ?_ _)); refine blk_put (cs := #[.int .i64 t190, .int .i64 t192, .int .i64 t194, .int .i64 0, .int .i64 0, .int .i64 0, .int .i64 0]) ?_ 6 _ rfl; (with_reducible repeat (first | refine blk_drewN ?_ _ | refine blk_drew ?_ | refine blk_alloc ?_ _)); refine blk_put (cs := #[.int .i64 t190, .int .i64 t192, .int .i64 t194, .int .i64 0, .int .i64 0, .int .i64 0, .int .i64 0]) ?_ 5 _ rfl; (with_reducible repeat (first | refine blk_drewN ?_ _ | refine blk_drew ?_ | refine blk_alloc ?_ _)); refine blk_put (cs := #[.int .i64 t190, .int .i64 t192, .int .i64 t194, .int .i64 0, .int .i64 0, .int .i64 0, .int .i64 0]) ?_ 4 _ rfl; (with_reducible repeat (first | refine blk_drewN ?_ _ | refine blk_drew ?_ | refine blk_alloc ?_ _)); refine blk_put (cs := #[.int .i64 t190, .int .i64 t192, .int .i64 t194, .int .i64 0, .int .i64 0, .int .i64 0, .int .i64 0]) ?_ 3 _ rfl; (with_reducible repeat (first | refine blk_drewN ?_ _ | refine blk_drew ?_ | refine blk_alloc ?_ _)); refine blk_put (cs := #[.int .i64 t190, .int .i64 t192, .int .i64 0, .int .i64 0, .int .i64 0, .int .i64 0, .int .i64 0]) ?_ 2 _ rfl; (with_reducible repeat (first | refine blk_drewN ?_ _ | refine blk_drew ?_ | refine blk_alloc ?_ _)); refine blk_put (cs := #[.int .i64 t190, .int .i64 0, .int .i64 0, .int .i64 0, .int .i64 0, .int .i64 0, .int .i64 0]) ?_ 1 _ rfl; (with_reducible repeat (first | refine blk_drewN ?_ _ | refine blk_drew ?_ | refine blk_alloc ?_ _)); refine blk_put (cs := #[.int .i64 0, .int .i64 0, .int .i64 0, .int .i64 0, .int .i64 0, .int .i64 0, .int .i64 0]) ?_ 0 _ rfl; (with_reducible repeat (first | refine blk_drewN ?_ _ | refine blk_drew ?_ | refine blk_alloc ?_ _)); exact BK195.out) hb); have n2_ := Aside0.mk (below_step (by repeat (first | (with_reducible first | exact HB.out | apply below_alloc | apply pw_below_drewN | apply below_drew1 | refine below_set ?_ GE195.out) | exact HB.out)) hb); clear HO_4; clear BK195; clear HB; have HO_4 := n0_; have BK195 := n1_; have HB := n2_; clear n0_ n1_ n2_; (try clear hb); (try clear hb2); (try clear hk); (try clear hi)))
        (try simp only [Act.put, List.setIfInBounds_toArray, List.set_cons_zero, List.set_cons_succ])
        go_cut [81] (fun v81 wc => ∃ (kq : Nat) (x81_25 : Bool) (x196000_25 : Int) (x196001_25 : Int) (x196002_25 : Int) (x196003_25 : Int) (x196004_25 : Int) (x196005_25 : Int) (x196006_25 : Int), v81 = .bool x81_25 ∧ Aside0 (date_Read.j1 kq x5_2 t197 x81_25 x196000_25 x196001_25 x196002_25 x196003_25 x196004_25 x196005_25 x196006_25 = some (r1, r2)) ∧ Aside0 (kq ≤ kj2) ∧ Aside0 (wc.heap[gb195]? = some (.cells #[.int .i64 x196000_25, .int .i64 x196001_25, .int .i64 x196002_25, .int .i64 x196003_25, .int .i64 x196004_25, .int .i64 x196005_25, .int .i64 x196006_25] 33 (0, 0))) ∧ Aside0 (Below w.heap.size w wc))
        case first =>
         have H := HC26.out
         clear HC26
         by_cases c40 : 3 < (x4_2.length : Int)
         ·rw [if_pos c40] at H
          have c40b0 : decide (3 < (x4_2.length : Int)) = true := decide_eq_true c40
          have c40b1 : decide (3 < x4_2.length) = true := decide_eq_true (by omega)
          clear c40
          (first | rw [c40b0] | (simp only [i64_w, i32_w]; rw [c40b0]) | skip)
          replace H := Option.bind_eq_some_iff.mp H
          obtain ⟨⟨t200, t201, t202, t203, t204, t205, t206, t207⟩, A410, H⟩ := H
          replace H : (if t200 = true then (if t198 = true then (if t201 < 0 then (date_Read.j1 kj2 x5_2 t197 true t201 t202 t203 t204 t205 t206 t207) else (if t202 < 1 then (date_Read.j1 kj2 x5_2 t197 true t201 t202 t203 t204 t205 t206 t207) else (date_Read.j1 kj2 x5_2 t197 (decide (t203 < 0)) t201 t202 t203 t204 t205 t206 t207))) else (date_Read.j1 kj2 x5_2 t197 true t201 t202 t203 t204 t205 t206 t207)) else (date_Read.j1 kj2 x5_2 t197 true t201 t202 t203 t204 t205 t206 t207)) = some (r1, r2) := H
          have A41 := Aside0.mk A410
          clear A410
          by_cases c42 : t200 = true
          ·subst c42
           have H1 : (if t198 = true then (if t201 < 0 then (date_Read.j1 kj2 x5_2 t197 true t201 t202 t203 t204 t205 t206 t207) else (if t202 < 1 then (date_Read.j1 kj2 x5_2 t197 true t201 t202 t203 t204 t205 t206 t207) else (date_Read.j1 kj2 x5_2 t197 (decide (t203 < 0)) t201 t202 t203 t204 t205 t206 t207))) else (date_Read.j1 kj2 x5_2 t197 true t201 t202 t203 t204 t205 t206 t207)) = some (r1, r2) := by rw [if_pos rfl] at H; exact H
           clear H
           have H := H1
           clear H1
           by_cases c43 : t198 = true
           ·subst c43
            have H1 : (if t201 < 0 then (date_Read.j1 kj2 x5_2 t197 true t201 t202 t203 t204 t205 t206 t207) else (if t202 < 1 then (date_Read.j1 kj2 x5_2 t197 true t201 t202 t203 t204 t205 t206 t207) else (date_Read.j1 kj2 x5_2 t197 (decide (t203 < 0)) t201 t202 t203 t204 t205 t206 t207))) = some (r1, r2) := by rw [if_pos rfl] at H; exact H
            clear H
            have H := H1
            clear H1
            by_cases c44 : t201 < 0
            ·rw [if_pos c44] at H
             have c44b0 : decide (t201 < 0) = true := decide_eq_true c44
             clear c44
             have H' := Aside0.mk H
             clear H
             have p199 : 0 ≤ (3 : Int) := (by omega)
             have q199 : 3 < (x4_2.length : Int) := of_decide_eq_true (by first | (with_reducible assumption) | assumption)
             obtain ⟨ad199, e199, hx199_0⟩ := Kd.at_string (Kd.Q_reads' HO_4.out).2.2 3 p199 q199
             obtain rfl : ad189 = ad199 := (by injection e199)
             (try simp only [show (3 : Int).toNat = 3 from rfl, Nat.reduceMul, Nat.reduceEqDiff, Go.Addr.add, ↓reduceIte] at hx199_0)
             have qi199 : (3 < x4_2.length) = True := eq_true (by omega)
             (try rw [show ((3 : Int)).toNat = 3 from rfl] at hx199_0)
             replace p199 := eq_true p199
             replace q199 := eq_true q199
             have HI195 := Aside0.mk (show IsS33 w w39 gb195 t190 t192 t194 0 0 0 0 from ⟨BK195.out, GE195.out⟩)
             go_wp2_with (first | ((with_reducible refine gate_callee (f := 33) rfl ?_); refine goesL_ (some 61) rfl rfl Tryd.func33 (by kernel_rfl) rfl #[.pointer (some ⟨gb195, 0, none⟩), .string (rdOf ByteArray.empty x4_2 3)] rfl (by (try simp only [List.map_toArray, List.map_cons, List.map_nil]); first | done | rfl | (simp only [List.length_drop, List.length_take]; rfl)) ?_; (with_reducible refine (date_Time_hours.calls kj2 gb195 t190 t192 t194 0 0 0 0 (rdOf ByteArray.empty x4_2 3) true t201 t202 t203 t204 t205 t206 t207 w _ ?side1 ?side2 ?side3 A41.out).mono ?_); (case side1 => exact HG.out); (case side2 => repeat (first | (with_reducible first | exact HI195.out | apply IsS33.alloc | apply IsS33.drewN | apply IsS33.drew | apply IsS33.set_0 | apply IsS33.set_1 | apply IsS33.set_2 | apply IsS33.set_3 | apply IsS33.set_4 | apply IsS33.set_5 | apply IsS33.set_6) | exact HI195.out)); (case side3 => repeat (first | (with_reducible first | exact HB.out | apply below_alloc | apply pw_below_drewN | apply below_drew1 | refine below_set ?_ (IsS33.ge HI195.out)) | exact HB.out)); rintro e w45 ⟨rfl, hi, hb, hk⟩; refine ⟨_, rfl, ?_⟩; have n0_ := Aside0.mk (Kd.Q_mono (Kd.Q_keep (IsS33.apartQ (show IsS33 w _ gb195 t190 t192 t194 0 0 0 0 from by repeat (first | (with_reducible first | exact HI195.out | apply IsS33.alloc | apply IsS33.drewN | apply IsS33.drew | apply IsS33.set_0 | apply IsS33.set_1 | apply IsS33.set_2 | apply IsS33.set_3 | apply IsS33.set_4 | apply IsS33.set_5 | apply IsS33.set_6) | exact HI195.out)) (by (with_reducible repeat (first | apply Kd.Q_alloc | apply Kd.Q_drewN | apply Kd.Q_drew)); exact HO_4.out) (by decide)) hk (fun _ h => h.2)) (fun _ h => h.1)); have n1_ := Aside0.mk (hb); have n2_ := Aside0.mk (hi); clear HO_4; clear HB; clear HI195; have HO_4 := n0_; have HB := n1_; have HI195 := n2_; clear n0_ n1_ n2_; have BK195 := Aside0.mk (show w45.heap[gb195]? = some (.cells #[.int .i64 t201, .int .i64 t202, .int .i64 t203, .int .i64 t204, .int .i64 t205, .int .i64 t206, .int .i64 t207] 33 (0, 0)) from (HI195.out).1); clear HI195; (try clear hb); (try clear hb2); (try clear hk); (try clear hi); have hcz46_0 : w45.cell? ⟨gb195, 0, none⟩ = some (.int .i64 t201) := (blk_cell BK195.out 0).trans rfl; have hcz46_1 : w45.cell? ⟨gb195, 1, none⟩ = some (.int .i64 t202) := (blk_cell BK195.out 1).trans rfl; have hcz46_2 : w45.cell? ⟨gb195, 2, none⟩ = some (.int .i64 t203) := (blk_cell BK195.out 2).trans rfl; have hcz46_3 : w45.cell? ⟨gb195, 3, none⟩ = some (.int .i64 t204) := (blk_cell BK195.out 3).trans rfl; have hcz46_4 : w45.cell? ⟨gb195, 4, none⟩ = some (.int .i64 t205) := (blk_cell BK195.out 4).trans rfl; have hcz46_5 : w45.cell? ⟨gb195, 5, none⟩ = some (.int .i64 t206) := (blk_cell BK195.out 5).trans rfl; have hcz46_6 : w45.cell? ⟨gb195, 6, none⟩ = some (.int .i64 t207) := (blk_cell BK195.out 6).trans rfl; have hfz46_0 := blk_frozen BK195.out 0; have hfz46_1 := blk_frozen BK195.out 1; have hfz46_2 := blk_frozen BK195.out 2; have hfz46_3 := blk_frozen BK195.out 3; have hfz46_4 := blk_frozen BK195.out 4; have hfz46_5 := blk_frozen BK195.out 5; have hfz46_6 := blk_frozen BK195.out 6))
             go_meet
             case rel => exact ⟨_, (true), (t201), (t202), (t203), (t204), (t205), (t206), (t207), (by first | rfl | (simp; done) | (simp [*]; done)), H', ⟨by have := HJ2.out; first | omega | exact Nat.le_refl _⟩, ⟨by (with_reducible repeat (first | refine blk_drewN ?_ _ | refine blk_drew ?_ | refine blk_alloc ?_ _)); exact BK195.out⟩, ⟨by repeat (first | (with_reducible first | exact HB.out | apply below_alloc | apply pw_below_drewN | apply below_drew1 | refine below_set ?_ GE195.out) | exact HB.out)⟩⟩
            ·rw [if_neg c44] at H
             have c44b0 : decide (t201 < 0) = false := decide_eq_false c44
             clear c44
             by_cases c47 : t202 < 1
             ·rw [if_pos c47] at H
              have c47b0 : decide (t202 < 1) = true := decide_eq_true c47
              clear c47
              have H' := Aside0.mk H
              clear H
              have p199 : 0 ≤ (3 : Int) := (by omega)
              have q199 : 3 < (x4_2.length : Int) := of_decide_eq_true (by first | (with_reducible assumption) | assumption)
              obtain ⟨ad199, e199, hx199_0⟩ := Kd.at_string (Kd.Q_reads' HO_4.out).2.2 3 p199 q199
              obtain rfl : ad189 = ad199 := (by injection e199)
              (try simp only [show (3 : Int).toNat = 3 from rfl, Nat.reduceMul, Nat.reduceEqDiff, Go.Addr.add, ↓reduceIte] at hx199_0)
              have qi199 : (3 < x4_2.length) = True := eq_true (by omega)
              (try rw [show ((3 : Int)).toNat = 3 from rfl] at hx199_0)
              replace p199 := eq_true p199
              replace q199 := eq_true q199
              have HI195 := Aside0.mk (show IsS33 w w39 gb195 t190 t192 t194 0 0 0 0 from ⟨BK195.out, GE195.out⟩)
              go_wp2_with (first | ((with_reducible refine gate_callee (f := 33) rfl ?_); refine goesL_ (some 61) rfl rfl Tryd.func33 (by kernel_rfl) rfl #[.pointer (some ⟨gb195, 0, none⟩), .string (rdOf ByteArray.empty x4_2 3)] rfl (by (try simp only [List.map_toArray, List.map_cons, List.map_nil]); first | done | rfl | (simp only [List.length_drop, List.length_take]; rfl)) ?_; (with_reducible refine (date_Time_hours.calls kj2 gb195 t190 t192 t194 0 0 0 0 (rdOf ByteArray.empty x4_2 3) true t201 t202 t203 t204 t205 t206 t207 w _ ?side1 ?side2 ?side3 A41.out).mono ?_); (case side1 => exact HG.out); (case side2 => repeat (first | (with_reducible first | exact HI195.out | apply IsS33.alloc | apply IsS33.drewN | apply IsS33.drew | apply IsS33.set_0 | apply IsS33.set_1 | apply IsS33.set_2 | apply IsS33.set_3 | apply IsS33.set_4 | apply IsS33.set_5 | apply IsS33.set_6) | exact HI195.out)); (case side3 => repeat (first | (with_reducible first | exact HB.out | apply below_alloc | apply pw_below_drewN | apply below_drew1 | refine below_set ?_ (IsS33.ge HI195.out)) | exact HB.out)); rintro e w48 ⟨rfl, hi, hb, hk⟩; refine ⟨_, rfl, ?_⟩; have n0_ := Aside0.mk (Kd.Q_mono (Kd.Q_keep (IsS33.apartQ (show IsS33 w _ gb195 t190 t192 t194 0 0 0 0 from by repeat (first | (with_reducible first | exact HI195.out | apply IsS33.alloc | apply IsS33.drewN | apply IsS33.drew | apply IsS33.set_0 | apply IsS33.set_1 | apply IsS33.set_2 | apply IsS33.set_3 | apply IsS33.set_4 | apply IsS33.set_5 | apply IsS33.set_6) | exact HI195.out)) (by (with_reducible repeat (first | apply Kd.Q_alloc | apply Kd.Q_drewN | apply Kd.Q_drew)); exact HO_4.out) (by decide)) hk (fun _ h => h.2)) (fun _ h => h.1)); have n1_ := Aside0.mk (hb); have n2_ := Aside0.mk (hi); clear HO_4; clear HB; clear HI195; have HO_4 := n0_; have HB := n1_; have HI195 := n2_; clear n0_ n1_ n2_; have BK195 := Aside0.mk (show w48.heap[gb195]? = some (.cells #[.int .i64 t201, .int .i64 t202, .int .i64 t203, .int .i64 t204, .int .i64 t205, .int .i64 t206, .int .i64 t207] 33 (0, 0)) from (HI195.out).1); clear HI195; (try clear hb); (try clear hb2); (try clear hk); (try clear hi); have hcz49_0 : w48.cell? ⟨gb195, 0, none⟩ = some (.int .i64 t201) := (blk_cell BK195.out 0).trans rfl; have hcz49_1 : w48.cell? ⟨gb195, 1, none⟩ = some (.int .i64 t202) := (blk_cell BK195.out 1).trans rfl; have hcz49_2 : w48.cell? ⟨gb195, 2, none⟩ = some (.int .i64 t203) := (blk_cell BK195.out 2).trans rfl; have hcz49_3 : w48.cell? ⟨gb195, 3, none⟩ = some (.int .i64 t204) := (blk_cell BK195.out 3).trans rfl; have hcz49_4 : w48.cell? ⟨gb195, 4, none⟩ = some (.int .i64 t205) := (blk_cell BK195.out 4).trans rfl; have hcz49_5 : w48.cell? ⟨gb195, 5, none⟩ = some (.int .i64 t206) := (blk_cell BK195.out 5).trans rfl; have hcz49_6 : w48.cell? ⟨gb195, 6, none⟩ = some (.int .i64 t207) := (blk_cell BK195.out 6).trans rfl; have hfz49_0 := blk_frozen BK195.out 0; have hfz49_1 := blk_frozen BK195.out 1; have hfz49_2 := blk_frozen BK195.out 2; have hfz49_3 := blk_frozen BK195.out 3; have hfz49_4 := blk_frozen BK195.out 4; have hfz49_5 := blk_frozen BK195.out 5; have hfz49_6 := blk_frozen BK195.out 6))
              go_meet
              case rel => exact ⟨_, (true), (t201), (t202), (t203), (t204), (t205), (t206), (t207), (by first | rfl | (simp; done) | (simp [*]; done)), H', ⟨by have := HJ2.out; first | omega | exact Nat.le_refl _⟩, ⟨by (with_reducible repeat (first | refine blk_drewN ?_ _ | refine blk_drew ?_ | refine blk_alloc ?_ _)); exact BK195.out⟩, ⟨by repeat (first | (with_reducible first | exact HB.out | apply below_alloc | apply pw_below_drewN | apply below_drew1 | refine below_set ?_ GE195.out) | exact HB.out)⟩⟩
             ·rw [if_neg c47] at H
              have c47b0 : decide (t202 < 1) = false := decide_eq_false c47
              clear c47
              have H' := Aside0.mk H
              clear H
              have p199 : 0 ≤ (3 : Int) := (by omega)
              have q199 : 3 < (x4_2.length : Int) := of_decide_eq_true (by first | (with_reducible assumption) | assumption)
              obtain ⟨ad199, e199, hx199_0⟩ := Kd.at_string (Kd.Q_reads' HO_4.out).2.2 3 p199 q199
              obtain rfl : ad189 = ad199 := (by injection e199)
              (try simp only [show (3 : Int).toNat = 3 from rfl, Nat.reduceMul, Nat.reduceEqDiff, Go.Addr.add, ↓reduceIte] at hx199_0)
              have qi199 : (3 < x4_2.length) = True := eq_true (by omega)
              (try rw [show ((3 : Int)).toNat = 3 from rfl] at hx199_0)
              replace p199 := eq_true p199
              replace q199 := eq_true q199
              have HI195 := Aside0.mk (show IsS33 w w39 gb195 t190 t192 t194 0 0 0 0 from ⟨BK195.out, GE195.out⟩)
              go_wp2_with (first | ((with_reducible refine gate_callee (f := 33) rfl ?_); refine goesL_ (some 61) rfl rfl Tryd.func33 (by kernel_rfl) rfl #[.pointer (some ⟨gb195, 0, none⟩), .string (rdOf ByteArray.empty x4_2 3)] rfl (by (try simp only [List.map_toArray, List.map_cons, List.map_nil]); first | done | rfl | (simp only [List.length_drop, List.length_take]; rfl)) ?_; (with_reducible refine (date_Time_hours.calls kj2 gb195 t190 t192 t194 0 0 0 0 (rdOf ByteArray.empty x4_2 3) true t201 t202 t203 t204 t205 t206 t207 w _ ?side1 ?side2 ?side3 A41.out).mono ?_); (case side1 => exact HG.out); (case side2 => repeat (first | (with_reducible first | exact HI195.out | apply IsS33.alloc | apply IsS33.drewN | apply IsS33.drew | apply IsS33.set_0 | apply IsS33.set_1 | apply IsS33.set_2 | apply IsS33.set_3 | apply IsS33.set_4 | apply IsS33.set_5 | apply IsS33.set_6) | exact HI195.out)); (case side3 => repeat (first | (with_reducible first | exact HB.out | apply below_alloc | apply pw_below_drewN | apply below_drew1 | refine below_set ?_ (IsS33.ge HI195.out)) | exact HB.out)); rintro e w50 ⟨rfl, hi, hb, hk⟩; refine ⟨_, rfl, ?_⟩; have n0_ := Aside0.mk (Kd.Q_mono (Kd.Q_keep (IsS33.apartQ (show IsS33 w _ gb195 t190 t192 t194 0 0 0 0 from by repeat (first | (with_reducible first | exact HI195.out | apply IsS33.alloc | apply IsS33.drewN | apply IsS33.drew | apply IsS33.set_0 | apply IsS33.set_1 | apply IsS33.set_2 | apply IsS33.set_3 | apply IsS33.set_4 | apply IsS33.set_5 | apply IsS33.set_6) | exact HI195.out)) (by (with_reducible repeat (first | apply Kd.Q_alloc | apply Kd.Q_drewN | apply Kd.Q_drew)); exact HO_4.out) (by decide)) hk (fun _ h => h.2)) (fun _ h => h.1)); have n1_ := Aside0.mk (hb); have n2_ := Aside0.mk (hi); clear HO_4; clear HB; clear HI195; have HO_4 := n0_; have HB := n1_; have HI195 := n2_; clear n0_ n1_ n2_; have BK195 := Aside0.mk (show w50.heap[gb195]? = some (.cells #[.int .i64 t201, .int .i64 t202, .int .i64 t203, .int .i64 t204, .int .i64 t205, .int .i64 t206, .int .i64 t207] 33 (0, 0)) from (HI195.out).1); clear HI195; (try clear hb); (try clear hb2); (try clear hk); (try clear hi); have hcz51_0 : w50.cell? ⟨gb195, 0, none⟩ = some (.int .i64 t201) := (blk_cell BK195.out 0).trans rfl; have hcz51_1 : w50.cell? ⟨gb195, 1, none⟩ = some (.int .i64 t202) := (blk_cell BK195.out 1).trans rfl; have hcz51_2 : w50.cell? ⟨gb195, 2, none⟩ = some (.int .i64 t203) := (blk_cell BK195.out 2).trans rfl; have hcz51_3 : w50.cell? ⟨gb195, 3, none⟩ = some (.int .i64 t204) := (blk_cell BK195.out 3).trans rfl; have hcz51_4 : w50.cell? ⟨gb195, 4, none⟩ = some (.int .i64 t205) := (blk_cell BK195.out 4).trans rfl; have hcz51_5 : w50.cell? ⟨gb195, 5, none⟩ = some (.int .i64 t206) := (blk_cell BK195.out 5).trans rfl; have hcz51_6 : w50.cell? ⟨gb195, 6, none⟩ = some (.int .i64 t207) := (blk_cell BK195.out 6).trans rfl; have hfz51_0 := blk_frozen BK195.out 0; have hfz51_1 := blk_frozen BK195.out 1; have hfz51_2 := blk_frozen BK195.out 2; have hfz51_3 := blk_frozen BK195.out 3; have hfz51_4 := blk_frozen BK195.out 4; have hfz51_5 := blk_frozen BK195.out 5; have hfz51_6 := blk_frozen BK195.out 6))
              go_meet
              case rel => exact ⟨_, (decide (t203 < 0)), (t201), (t202), (t203), (t204), (t205), (t206), (t207), (by first | rfl | (simp; done) | (simp [*]; done)), H', ⟨by have := HJ2.out; first | omega | exact Nat.le_refl _⟩, ⟨by (with_reducible repeat (first | refine blk_drewN ?_ _ | refine blk_drew ?_ | refine blk_alloc ?_ _)); exact BK195.out⟩, ⟨by repeat (first | (with_reducible first | exact HB.out | apply below_alloc | apply pw_below_drewN | apply below_drew1 | refine below_set ?_ GE195.out) | exact HB.out)⟩⟩
           ·replace c43 := Bool.eq_false_iff.mpr c43
            subst c43
            have H1 : (date_Read.j1 kj2 x5_2 t197 true t201 t202 t203 t204 t205 t206 t207) = some (r1, r2) := by rw [if_neg (show ¬ (false = true) by decide)] at H; exact H
            clear H
            have H := H1
            clear H1
            have H' := Aside0.mk H
            clear H
            have p199 : 0 ≤ (3 : Int) := (by omega)
            have q199 : 3 < (x4_2.length : Int) := of_decide_eq_true (by first | (with_reducible assumption) | assumption)
            obtain ⟨ad199, e199, hx199_0⟩ := Kd.at_string (Kd.Q_reads' HO_4.out).2.2 3 p199 q199
            obtain rfl : ad189 = ad199 := (by injection e199)
            (try simp only [show (3 : Int).toNat = 3 from rfl, Nat.reduceMul, Nat.reduceEqDiff, Go.Addr.add, ↓reduceIte] at hx199_0)
            have qi199 : (3 < x4_2.length) = True := eq_true (by omega)
            (try rw [show ((3 : Int)).toNat = 3 from rfl] at hx199_0)
            replace p199 := eq_true p199
            replace q199 := eq_true q199
            have HI195 := Aside0.mk (show IsS33 w w39 gb195 t190 t192 t194 0 0 0 0 from ⟨BK195.out, GE195.out⟩)
            go_wp2_with (first | ((with_reducible refine gate_callee (f := 33) rfl ?_); refine goesL_ (some 61) rfl rfl Tryd.func33 (by kernel_rfl) rfl #[.pointer (some ⟨gb195, 0, none⟩), .string (rdOf ByteArray.empty x4_2 3)] rfl (by (try simp only [List.map_toArray, List.map_cons, List.map_nil]); first | done | rfl | (simp only [List.length_drop, List.length_take]; rfl)) ?_; (with_reducible refine (date_Time_hours.calls kj2 gb195 t190 t192 t194 0 0 0 0 (rdOf ByteArray.empty x4_2 3) true t201 t202 t203 t204 t205 t206 t207 w _ ?side1 ?side2 ?side3 A41.out).mono ?_); (case side1 => exact HG.out); (case side2 => repeat (first | (with_reducible first | exact HI195.out | apply IsS33.alloc | apply IsS33.drewN | apply IsS33.drew | apply IsS33.set_0 | apply IsS33.set_1 | apply IsS33.set_2 | apply IsS33.set_3 | apply IsS33.set_4 | apply IsS33.set_5 | apply IsS33.set_6) | exact HI195.out)); (case side3 => repeat (first | (with_reducible first | exact HB.out | apply below_alloc | apply pw_below_drewN | apply below_drew1 | refine below_set ?_ (IsS33.ge HI195.out)) | exact HB.out)); rintro e w52 ⟨rfl, hi, hb, hk⟩; refine ⟨_, rfl, ?_⟩; have n0_ := Aside0.mk (Kd.Q_mono (Kd.Q_keep (IsS33.apartQ (show IsS33 w _ gb195 t190 t192 t194 0 0 0 0 from by repeat (first | (with_reducible first | exact HI195.out | apply IsS33.alloc | apply IsS33.drewN | apply IsS33.drew | apply IsS33.set_0 | apply IsS33.set_1 | apply IsS33.set_2 | apply IsS33.set_3 | apply IsS33.set_4 | apply IsS33.set_5 | apply IsS33.set_6) | exact HI195.out)) (by (with_reducible repeat (first | apply Kd.Q_alloc | apply Kd.Q_drewN | apply Kd.Q_drew)); exact HO_4.out) (by decide)) hk (fun _ h => h.2)) (fun _ h => h.1)); have n1_ := Aside0.mk (hb); have n2_ := Aside0.mk (hi); clear HO_4; clear HB; clear HI195; have HO_4 := n0_; have HB := n1_; have HI195 := n2_; clear n0_ n1_ n2_; have BK195 := Aside0.mk (show w52.heap[gb195]? = some (.cells #[.int .i64 t201, .int .i64 t202, .int .i64 t203, .int .i64 t204, .int .i64 t205, .int .i64 t206, .int .i64 t207] 33 (0, 0)) from (HI195.out).1); clear HI195; (try clear hb); (try clear hb2); (try clear hk); (try clear hi)))
            go_meet
            case rel => exact ⟨_, (true), (t201), (t202), (t203), (t204), (t205), (t206), (t207), (by first | rfl | (simp; done) | (simp [*]; done)), H', ⟨by have := HJ2.out; first | omega | exact Nat.le_refl _⟩, ⟨by (with_reducible repeat (first | refine blk_drewN ?_ _ | refine blk_drew ?_ | refine blk_alloc ?_ _)); exact BK195.out⟩, ⟨by repeat (first | (with_reducible first | exact HB.out | apply below_alloc | apply pw_below_drewN | apply below_drew1 | refine below_set ?_ GE195.out) | exact HB.out)⟩⟩
          ·replace c42 := Bool.eq_false_iff.mpr c42
           subst c42
           have H1 : (date_Read.j1 kj2 x5_2 t197 true t201 t202 t203 t204 t205 t206 t207) = some (r1, r2) := by rw [if_neg (show ¬ (false = true) by decide)] at H; exact H
           clear H
           have H := H1
           clear H1
           have H' := Aside0.mk H
           clear H
           have p199 : 0 ≤ (3 : Int) := (by omega)
           have q199 : 3 < (x4_2.length : Int) := of_decide_eq_true (by first | (with_reducible assumption) | assumption)
           obtain ⟨ad199, e199, hx199_0⟩ := Kd.at_string (Kd.Q_reads' HO_4.out).2.2 3 p199 q199
           obtain rfl : ad189 = ad199 := (by injection e199)
           (try simp only [show (3 : Int).toNat = 3 from rfl, Nat.reduceMul, Nat.reduceEqDiff, Go.Addr.add, ↓reduceIte] at hx199_0)
           have qi199 : (3 < x4_2.length) = True := eq_true (by omega)
           (try rw [show ((3 : Int)).toNat = 3 from rfl] at hx199_0)
           replace p199 := eq_true p199
           replace q199 := eq_true q199
           have HI195 := Aside0.mk (show IsS33 w w39 gb195 t190 t192 t194 0 0 0 0 from ⟨BK195.out, GE195.out⟩)
           go_wp2_with (first | ((with_reducible refine gate_callee (f := 33) rfl ?_); refine goesL_ (some 61) rfl rfl Tryd.func33 (by kernel_rfl) rfl #[.pointer (some ⟨gb195, 0, none⟩), .string (rdOf ByteArray.empty x4_2 3)] rfl (by (try simp only [List.map_toArray, List.map_cons, List.map_nil]); first | done | rfl | (simp only [List.length_drop, List.length_take]; rfl)) ?_; (with_reducible refine (date_Time_hours.calls kj2 gb195 t190 t192 t194 0 0 0 0 (rdOf ByteArray.empty x4_2 3) false t201 t202 t203 t204 t205 t206 t207 w _ ?side1 ?side2 ?side3 A41.out).mono ?_); (case side1 => exact HG.out); (case side2 => repeat (first | (with_reducible first | exact HI195.out | apply IsS33.alloc | apply IsS33.drewN | apply IsS33.drew | apply IsS33.set_0 | apply IsS33.set_1 | apply IsS33.set_2 | apply IsS33.set_3 | apply IsS33.set_4 | apply IsS33.set_5 | apply IsS33.set_6) | exact HI195.out)); (case side3 => repeat (first | (with_reducible first | exact HB.out | apply below_alloc | apply pw_below_drewN | apply below_drew1 | refine below_set ?_ (IsS33.ge HI195.out)) | exact HB.out)); rintro e w53 ⟨rfl, hi, hb, hk⟩; refine ⟨_, rfl, ?_⟩; have n0_ := Aside0.mk (Kd.Q_mono (Kd.Q_keep (IsS33.apartQ (show IsS33 w _ gb195 t190 t192 t194 0 0 0 0 from by repeat (first | (with_reducible first | exact HI195.out | apply IsS33.alloc | apply IsS33.drewN | apply IsS33.drew | apply IsS33.set_0 | apply IsS33.set_1 | apply IsS33.set_2 | apply IsS33.set_3 | apply IsS33.set_4 | apply IsS33.set_5 | apply IsS33.set_6) | exact HI195.out)) (by (with_reducible repeat (first | apply Kd.Q_alloc | apply Kd.Q_drewN | apply Kd.Q_drew)); exact HO_4.out) (by decide)) hk (fun _ h => h.2)) (fun _ h => h.1)); have n1_ := Aside0.mk (hb); have n2_ := Aside0.mk (hi); clear HO_4; clear HB; clear HI195; have HO_4 := n0_; have HB := n1_; have HI195 := n2_; clear n0_ n1_ n2_; have BK195 := Aside0.mk (show w53.heap[gb195]? = some (.cells #[.int .i64 t201, .int .i64 t202, .int .i64 t203, .int .i64 t204, .int .i64 t205, .int .i64 t206, .int .i64 t207] 33 (0, 0)) from (HI195.out).1); clear HI195; (try clear hb); (try clear hb2); (try clear hk); (try clear hi)))
           go_meet
           case rel => exact ⟨_, (true), (t201), (t202), (t203), (t204), (t205), (t206), (t207), (by first | rfl | (simp; done) | (simp [*]; done)), H', ⟨by have := HJ2.out; first | omega | exact Nat.le_refl _⟩, ⟨by (with_reducible repeat (first | refine blk_drewN ?_ _ | refine blk_drew ?_ | refine blk_alloc ?_ _)); exact BK195.out⟩, ⟨by repeat (first | (with_reducible first | exact HB.out | apply below_alloc | apply pw_below_drewN | apply below_drew1 | refine below_set ?_ GE195.out) | exact HB.out)⟩⟩
         ·rw [if_neg c40] at H
          exact absurd H (by simp)
        case rest =>
         clear HC26
         try clear p1
         try clear q1
         try clear hx1
         try clear qi1
         try clear p2
         try clear c3
         try clear c4
         try clear hx18
         try clear p19
         try clear q19
         try clear hx19
         try clear qi19
         try clear c30
         try clear c31
         try clear c32
         try clear c33
         try clear c40
         try clear c40b0
         try clear c40b1
         try clear c42
         try clear c43
         try clear c44
         try clear c44b0
         try clear c47
         try clear c47b0
         try clear hcz46_0
         try clear hcz46_1
         try clear hcz46_2
         try clear hcz46_3
         try clear hcz46_4
         try clear hcz46_5
         try clear hcz46_6
         try clear hcz49_0
         try clear hcz49_1
         try clear hcz49_2
         try clear hcz49_3
         try clear hcz49_4
         try clear hcz49_5
         try clear hcz49_6
         try clear hcz51_0
         try clear hcz51_1
         try clear hcz51_2
         try clear hcz51_3
         try clear hcz51_4
         try clear hcz51_5
         try clear hcz51_6
         try clear hfz46_0
         try clear hfz46_1
         try clear hfz46_2
         try clear hfz46_3
         try clear hfz46_4
         try clear hfz46_5
         try clear hfz46_6
         try clear hfz49_0
         try clear hfz49_1
         try clear hfz49_2
         try clear hfz49_3
         try clear hfz49_4
         try clear hfz49_5
         try clear hfz49_6
         try clear hfz51_0
         try clear hfz51_1
         try clear hfz51_2
         try clear hfz51_3
         try clear hfz51_4
         try clear hfz51_5
         try clear hfz51_6
         try clear hx189_0
         try clear hx191_0
         try clear hx193_0
         try clear hx196_0
         try clear hx199_0
         try clear p191
         try clear p193
         try clear p196
         try clear p199
         try clear q191
         try clear q193
         try clear q196
         try clear q199
         obtain ⟨kq, x81_25, x196000_25, x196001_25, x196002_25, x196003_25, x196004_25, x196005_25, x196006_25, rfl, HA, HJ25, BK195, HB⟩ := hcut
         cases kq with
         | zero => exact absurd HA.out (by simp [date_Read.j1])
         | succ kj25 =>
          have H := HA.out
          clear HA
          simp only [date_Read.j1] at H
          by_cases c54 : x81_25 = true
          ·subst c54
           have H1 : (some (0, 3)) = some (r1, r2) := by rw [if_pos rfl] at H; exact H
           clear H
           have H := H1
           clear H1
           simp only [Option.some.injEq, Prod.mk.injEq] at H
           obtain ⟨rfl, rfl⟩ := H
           go_wp2
           go_ret2
           exact ⟨by first | rfl | (simp [errW_none, errW_some] <;> rfl) | (simp [*, errW_none, errW_some] <;> rfl), by repeat (first | (with_reducible first | exact HB.out | apply below_alloc | apply pw_below_drewN | apply below_drew1 | refine below_set ?_ GE195.out) | exact HB.out)⟩
          ·replace c54 := Bool.eq_false_iff.mpr c54
           subst c54
           have H1 : ((date_Number.f kj25 x196000_25 x196001_25 x196002_25 x196003_25 x196004_25 x196005_25 x196006_25).bind fun bt208 => (if bt208.2 = 0 then (if x5_2 ≥ 0 then (date_Read.j2 kj25 t197 bt208.1 (x5_2 != (Int.tmod (wrap64 ((wrap64 (Int.tdiv bt208.1 86400)) + 4)) 7))) else (date_Read.j2 kj25 t197 bt208.1 false)) else (some (0, bt208.2)))) = some (r1, r2) := by rw [if_neg (show ¬ (false = true) by decide)] at H; exact H
           clear H
           have H := H1
           clear H1
           replace H := Option.bind_eq_some_iff.mp H
           obtain ⟨⟨t208, t209⟩, A550, H⟩ := H
           replace H : (if t209 = 0 then (if x5_2 ≥ 0 then (date_Read.j2 kj25 t197 t208 (x5_2 != (Int.tmod (wrap64 ((wrap64 (Int.tdiv t208 86400)) + 4)) 7))) else (date_Read.j2 kj25 t197 t208 false)) else (some (0, t209))) = some (r1, r2) := H
           have A55 := Aside0.mk A550
           clear A550
           by_cases c56 : t209 = 0
           ·rw [if_pos c56] at H
            have c56b0 : (t209 == 0) = true := beq_iff_eq.mpr c56
            have c56b1 : (t209 != 0) = false := bne_eq_false_iff_eq.mpr c56
            clear c56
            have HC57 := Aside0.mk H
            clear H
            have hcz58_0 : wc.cell? ⟨gb195, 0, none⟩ = some (.int .i64 x196000_25) := (blk_cell BK195.out 0).trans rfl
            have hcz58_1 : wc.cell? ⟨gb195, 1, none⟩ = some (.int .i64 x196001_25) := (blk_cell BK195.out 1).trans rfl
            have hcz58_2 : wc.cell? ⟨gb195, 2, none⟩ = some (.int .i64 x196002_25) := (blk_cell BK195.out 2).trans rfl
            have hcz58_3 : wc.cell? ⟨gb195, 3, none⟩ = some (.int .i64 x196003_25) := (blk_cell BK195.out 3).trans rfl
            have hcz58_4 : wc.cell? ⟨gb195, 4, none⟩ = some (.int .i64 x196004_25) := (blk_cell BK195.out 4).trans rfl
            have hcz58_5 : wc.cell? ⟨gb195, 5, none⟩ = some (.int .i64 x196005_25) := (blk_cell BK195.out 5).trans rfl
            have hcz58_6 : wc.cell? ⟨gb195, 6, none⟩ = some (.int .i64 x196006_25) := (blk_cell BK195.out 6).trans rfl
            have hfz58_0 := blk_frozen BK195.out 0
            have hfz58_1 := blk_frozen BK195.out 1
            have hfz58_2 := blk_frozen BK195.out 2
            have hfz58_3 := blk_frozen BK195.out 3
            have hfz58_4 := blk_frozen BK195.out 4
            have hfz58_5 := blk_frozen BK195.out 5
            have hfz58_6 := blk_frozen BK195.out 6
            go_upto_region 18 with (first | ((with_reducible refine gate_callee (f := 16) rfl ?_); refine goesL_ (some 84) rfl rfl Tryd.func16 (by kernel_rfl) rfl #[.agg #[.int .i64 x196000_25, .int .i64 x196001_25, .int .i64 x196002_25, .int .i64 x196003_25, .int .i64 x196004_25, .int .i64 x196005_25, .int .i64 x196006_25]] rfl (by (try simp only [List.map_toArray, List.map_cons, List.map_nil]); first | done | rfl | (simp only [List.length_drop, List.length_take]; rfl)) ?_; (with_reducible refine (date_Number.calls kj25 x196000_25 x196001_25 x196002_25 x196003_25 x196004_25 x196005_25 x196006_25 t208 t209 _ ?side1 A55.out).mono ?_); (case side1 => exact Amb.at HG.out (by repeat (first | (with_reducible first | exact HB.out | apply below_alloc | apply pw_below_drewN | apply below_drew1 | refine below_set ?_ GE195.out) | exact HB.out))); rintro e w59 ⟨rfl, hb⟩; refine ⟨_, rfl, ?_⟩; have n0_ := Aside0.mk (blk_below (g := gb195) (o := .cells #[.int .i64 x196000_25, .int .i64 x196001_25, .int .i64 x196002_25, .int .i64 x196003_25, .int .i64 x196004_25, .int .i64 x196005_25, .int .i64 x196006_25] 33 (0, 0)) (by (with_reducible repeat (first | refine blk_drewN ?_ _ | refine blk_drew ?_ | refine blk_alloc ?_ _)); exact BK195.out) hb); have n1_ := Aside0.mk (below_step (by repeat (first | (with_reducible first | exact HB.out | apply below_alloc | apply pw_below_drewN | apply below_drew1 | refine below_set ?_ GE195.out) | exact HB.out)) hb); clear BK195; clear HB; have BK195 := n0_; have HB := n1_; clear n0_ n1_; (try clear hb); (try clear hb2); (try clear hk); (try clear hi)))
            (try simp only [Act.put, List.setIfInBounds_toArray, List.set_cons_zero, List.set_cons_succ])
            go_cut [99] (fun v99 wc => ∃ (kq : Nat) (x99_56 : Bool), v99 = .bool x99_56 ∧ Aside0 (date_Read.j2 kq t197 t208 x99_56 = some (r1, r2)) ∧ Aside0 (kq ≤ kj25) ∧ Aside0 (wc.heap[gb195]? = some (.cells #[.int .i64 x196000_25, .int .i64 x196001_25, .int .i64 x196002_25, .int .i64 x196003_25, .int .i64 x196004_25, .int .i64 x196005_25, .int .i64 x196006_25] 33 (0, 0))) ∧ Aside0 (Below w.heap.size w wc))
            case first =>
             have H := HC57.out
             clear HC57
             by_cases c60 : x5_2 ≥ 0
             ·rw [if_pos c60] at H
              have c60b0 : decide (0 ≤ x5_2) = true := decide_eq_true c60
              clear c60
              (first | rw [c60b0] | (simp only [i64_w, i32_w]; rw [c60b0]) | skip)
              have H' := Aside0.mk H
              clear H
              go_wp2
              go_meet
              case rel => exact ⟨_, ((x5_2 != (Int.tmod (wrap64 ((wrap64 (Int.tdiv t208 86400)) + 4)) 7))), (by first | rfl | (simp; done) | (simp [*]; done)), H', ⟨by have := HJ2.out; have := HJ25.out; first | omega | exact Nat.le_refl _⟩, ⟨by (with_reducible repeat (first | refine blk_drewN ?_ _ | refine blk_drew ?_ | refine blk_alloc ?_ _)); exact BK195.out⟩, ⟨by repeat (first | (with_reducible first | exact HB.out | apply below_alloc | apply pw_below_drewN | apply below_drew1 | refine below_set ?_ GE195.out) | exact HB.out)⟩⟩
             ·rw [if_neg c60] at H
              have c60b0 : decide (0 ≤ x5_2) = false := decide_eq_false c60
              clear c60
              (first | rw [c60b0] | (simp only [i64_w, i32_w]; rw [c60b0]) | skip)
              have H' := Aside0.mk H
              clear H
              go_wp2
              go_meet
              case rel => exact ⟨_, (false), (by first | rfl | (simp; done) | (simp [*]; done)), H', ⟨by have := HJ2.out; have := HJ25.out; first | omega | exact Nat.le_refl _⟩, ⟨by (with_reducible repeat (first | refine blk_drewN ?_ _ | refine blk_drew ?_ | refine blk_alloc ?_ _)); exact BK195.out⟩, ⟨by repeat (first | (with_reducible first | exact HB.out | apply below_alloc | apply pw_below_drewN | apply below_drew1 | refine below_set ?_ GE195.out) | exact HB.out)⟩⟩
            case rest =>
             clear HC57
             try clear c1
             try clear p1
             try clear q1
             try clear hx1
             try clear qi1
             try clear p2
             try clear c3
             try clear c4
             try clear c5
             try clear c6
             try clear p6
             try clear c16
             try clear hx18
             try clear p19
             try clear q19
             try clear hx19
             try clear qi19
             try clear c30
             try clear c31
             try clear c32
             try clear c33
             try clear c40
             try clear c40b0
             try clear c40b1
             try clear c42
             try clear c43
             try clear c44
             try clear c44b0
             try clear c47
             try clear c47b0
             try clear c54
             try clear c56
             try clear c56b0
             try clear c56b1
             try clear c60
             try clear c60b0
             try clear hcz46_0
             try clear hcz46_1
             try clear hcz46_2
             try clear hcz46_3
             try clear hcz46_4
             try clear hcz46_5
             try clear hcz46_6
             try clear hcz49_0
             try clear hcz49_1
             try clear hcz49_2
             try clear hcz49_3
             try clear hcz49_4
             try clear hcz49_5
             try clear hcz49_6
             try clear hcz51_0
             try clear hcz51_1
             try clear hcz51_2
             try clear hcz51_3
             try clear hcz51_4
             try clear hcz51_5
             try clear hcz51_6
             try clear hcz58_0
             try clear hcz58_1
             try clear hcz58_2
             try clear hcz58_3
             try clear hcz58_4
             try clear hcz58_5
             try clear hcz58_6
             try clear hfz46_0
             try clear hfz46_1
             try clear hfz46_2
             try clear hfz46_3
             try clear hfz46_4
             try clear hfz46_5
             try clear hfz46_6
             try clear hfz49_0
             try clear hfz49_1
             try clear hfz49_2
             try clear hfz49_3
             try clear hfz49_4
             try clear hfz49_5
             try clear hfz49_6
             try clear hfz51_0
             try clear hfz51_1
             try clear hfz51_2
             try clear hfz51_3
             try clear hfz51_4
             try clear hfz51_5
             try clear hfz51_6
             try clear hfz58_0
             try clear hfz58_1
             try clear hfz58_2
             try clear hfz58_3
             try clear hfz58_4
             try clear hfz58_5
             try clear hfz58_6
             try clear hx189_0
             try clear hx191_0
             try clear hx193_0
             try clear hx196_0
             try clear hx199_0
             try clear p1
             try clear p19
             try clear p191
             try clear p193
             try clear p196
             try clear p199
             try clear p2
             try clear q1
             try clear q19
             try clear q191
             try clear q193
             try clear q196
             try clear q199
             obtain ⟨kq, x99_56, rfl, HA, HJ56, BK195, HB⟩ := hcut
             cases kq with
             | zero => exact absurd HA.out (by simp [date_Read.j2])
             | succ kj56 =>
              have H := HA.out
              clear HA
              simp only [date_Read.j2] at H
              by_cases c61 : x99_56 = true
              ·subst c61
               have H1 : (some (0, 3)) = some (r1, r2) := by rw [if_pos rfl] at H; exact H
               clear H
               have H := H1
               clear H1
               simp only [Option.some.injEq, Prod.mk.injEq] at H
               obtain ⟨rfl, rfl⟩ := H
               go_wp2
               go_ret2
               exact ⟨by first | rfl | (simp [errW_none, errW_some] <;> rfl) | (simp [*, errW_none, errW_some] <;> rfl), by repeat (first | (with_reducible first | exact HB.out | apply below_alloc | apply pw_below_drewN | apply below_drew1 | refine below_set ?_ GE195.out) | exact HB.out)⟩
              ·replace c61 := Bool.eq_false_iff.mpr c61
               subst c61
               have H1 : ((date_moment.f (wrap64 (t208 - t197))).bind fun t210 => (if t210 = true then (some (wrap64 (t208 - t197), 0)) else (some (0, 1)))) = some (r1, r2) := by rw [if_neg (show ¬ (false = true) by decide)] at H; exact H
               clear H
               have H := H1
               clear H1
               replace H := Option.bind_eq_some_iff.mp H
               obtain ⟨t210, A620, H⟩ := H
               replace H : (if t210 = true then (some (wrap64 (t208 - t197), 0)) else (some (0, 1))) = some (r1, r2) := H
               have A62 := Aside0.mk A620
               clear A620
               by_cases c63 : t210 = true
               ·subst c63
                have H1 : (some (wrap64 (t208 - t197), 0)) = some (r1, r2) := by rw [if_pos rfl] at H; exact H
                clear H
                have H := H1
                clear H1
                simp only [Option.some.injEq, Prod.mk.injEq] at H
                obtain ⟨rfl, rfl⟩ := H
                go_wp2_with (first | ((with_reducible refine gate_callee (f := 34) rfl ?_); refine goesL_ (some 103) rfl rfl Tryd.func34 (by kernel_rfl) rfl #[.int .i64 (wrap64 (t208 - t197))] rfl (by (try simp only [List.map_toArray, List.map_cons, List.map_nil]); first | done | rfl | (simp only [List.length_drop, List.length_take]; rfl)) ?_; (with_reducible refine (date_moment.calls (wrap64 (t208 - t197)) true _ A62.out).mono ?_); rintro e w' ⟨rfl, ⟨nd, rfl⟩⟩; refine ⟨_, rfl, ?_⟩))
                go_ret2
                exact ⟨by first | rfl | (simp [errW_none, errW_some] <;> rfl) | (simp [*, errW_none, errW_some] <;> rfl), by repeat (first | (with_reducible first | exact HB.out | apply below_alloc | apply pw_below_drewN | apply below_drew1 | refine below_set ?_ GE195.out) | exact HB.out)⟩
               ·replace c63 := Bool.eq_false_iff.mpr c63
                subst c63
                have H1 : (some (0, 1)) = some (r1, r2) := by rw [if_neg (show ¬ (false = true) by decide)] at H; exact H
                clear H
                have H := H1
                clear H1
                simp only [Option.some.injEq, Prod.mk.injEq] at H
                obtain ⟨rfl, rfl⟩ := H
                go_wp2_with (first | ((with_reducible refine gate_callee (f := 34) rfl ?_); refine goesL_ (some 103) rfl rfl Tryd.func34 (by kernel_rfl) rfl #[.int .i64 (wrap64 (t208 - t197))] rfl (by (try simp only [List.map_toArray, List.map_cons, List.map_nil]); first | done | rfl | (simp only [List.length_drop, List.length_take]; rfl)) ?_; (with_reducible refine (date_moment.calls (wrap64 (t208 - t197)) false _ A62.out).mono ?_); rintro e w' ⟨rfl, ⟨nd, rfl⟩⟩; refine ⟨_, rfl, ?_⟩))
                go_ret2
                exact ⟨by first | rfl | (simp [errW_none, errW_some] <;> rfl) | (simp [*, errW_none, errW_some] <;> rfl), by repeat (first | (with_reducible first | exact HB.out | apply below_alloc | apply pw_below_drewN | apply below_drew1 | refine below_set ?_ GE195.out) | exact HB.out)⟩
           ·rw [if_neg c56] at H
            have c56b0 : (t209 == 0) = false := beq_eq_false_iff_ne.mpr c56
            have c56b1 : (t209 != 0) = true := bne_iff_ne.mpr c56
            simp only [Option.some.injEq, Prod.mk.injEq] at H
            obtain ⟨rfl, rfl⟩ := H
            have hcz64_0 : wc.cell? ⟨gb195, 0, none⟩ = some (.int .i64 x196000_25) := (blk_cell BK195.out 0).trans rfl
            have hcz64_1 : wc.cell? ⟨gb195, 1, none⟩ = some (.int .i64 x196001_25) := (blk_cell BK195.out 1).trans rfl
            have hcz64_2 : wc.cell? ⟨gb195, 2, none⟩ = some (.int .i64 x196002_25) := (blk_cell BK195.out 2).trans rfl
            have hcz64_3 : wc.cell? ⟨gb195, 3, none⟩ = some (.int .i64 x196003_25) := (blk_cell BK195.out 3).trans rfl
            have hcz64_4 : wc.cell? ⟨gb195, 4, none⟩ = some (.int .i64 x196004_25) := (blk_cell BK195.out 4).trans rfl
            have hcz64_5 : wc.cell? ⟨gb195, 5, none⟩ = some (.int .i64 x196005_25) := (blk_cell BK195.out 5).trans rfl
            have hcz64_6 : wc.cell? ⟨gb195, 6, none⟩ = some (.int .i64 x196006_25) := (blk_cell BK195.out 6).trans rfl
            have hfz64_0 := blk_frozen BK195.out 0
            have hfz64_1 := blk_frozen BK195.out 1
            have hfz64_2 := blk_frozen BK195.out 2
            have hfz64_3 := blk_frozen BK195.out 3
            have hfz64_4 := blk_frozen BK195.out 4
            have hfz64_5 := blk_frozen BK195.out 5
            have hfz64_6 := blk_frozen BK195.out 6
            go_wp2_with (first | ((with_reducible refine gate_callee (f := 16) rfl ?_); refine goesL_ (some 84) rfl rfl Tryd.func16 (by kernel_rfl) rfl #[.agg #[.int .i64 x196000_25, .int .i64 x196001_25, .int .i64 x196002_25, .int .i64 x196003_25, .int .i64 x196004_25, .int .i64 x196005_25, .int .i64 x196006_25]] rfl (by (try simp only [List.map_toArray, List.map_cons, List.map_nil]); first | done | rfl | (simp only [List.length_drop, List.length_take]; rfl)) ?_; (with_reducible refine (date_Number.calls kj25 x196000_25 x196001_25 x196002_25 x196003_25 x196004_25 x196005_25 x196006_25 t208 t209 _ ?side1 A55.out).mono ?_); (case side1 => exact Amb.at HG.out (by repeat (first | (with_reducible first | exact HB.out | apply below_alloc | apply pw_below_drewN | apply below_drew1 | refine below_set ?_ GE195.out) | exact HB.out))); rintro e w65 ⟨rfl, hb⟩; refine ⟨_, rfl, ?_⟩; have n0_ := Aside0.mk (blk_below (g := gb195) (o := .cells #[.int .i64 x196000_25, .int .i64 x196001_25, .int .i64 x196002_25, .int .i64 x196003_25, .int .i64 x196004_25, .int .i64 x196005_25, .int .i64 x196006_25] 33 (0, 0)) (by (with_reducible repeat (first | refine blk_drewN ?_ _ | refine blk_drew ?_ | refine blk_alloc ?_ _)); exact BK195.out) hb); have n1_ := Aside0.mk (below_step (by repeat (first | (with_reducible first | exact HB.out | apply below_alloc | apply pw_below_drewN | apply below_drew1 | refine below_set ?_ GE195.out) | exact HB.out)) hb); clear BK195; clear HB; have BK195 := n0_; have HB := n1_; clear n0_ n1_; (try clear hb); (try clear hb2); (try clear hk); (try clear hi)))
            go_ret2
            exact ⟨by first | rfl | (simp [errW_none, errW_some] <;> rfl) | (simp [*, errW_none, errW_some] <;> rfl), by repeat (first | (with_reducible first | exact HB.out | apply below_alloc | apply pw_below_drewN | apply below_drew1 | refine below_set ?_ GE195.out) | exact HB.out)⟩
       ·rw [if_neg c24] at H
        exact absurd H (by simp)
      ·rw [if_neg c22] at H
       exact absurd H (by simp)
     ·rw [if_neg c20] at H
      exact absurd H (by simp)
    ·rw [if_neg c18] at H
     exact absurd H (by simp)
   ·rw [if_neg c17] at H
    have c17b0 : ((x4_2.length : Int) == 5) = false := beq_eq_false_iff_ne.mpr c17
    have c17b1 : ((x4_2.length : Int) != 5) = true := bne_iff_ne.mpr c17
    simp only [Option.some.injEq, Prod.mk.injEq] at H
    obtain ⟨rfl, rfl⟩ := H
    obtain ⟨Ao66, co66, eo66, _⟩ := Kd.Q_slice HO_4.out
    subst eo66
    go_wp2
    go_ret2
    exact ⟨by first | rfl | (simp [errW_none, errW_some] <;> rfl) | (simp [*, errW_none, errW_some] <;> rfl), by repeat (first | (with_reducible first | exact HB.out | apply below_alloc | apply pw_below_drewN | apply below_drew1) | exact HB.out)⟩

end Go.Proofs.YtocdojegoakmoaaDoor.Z
