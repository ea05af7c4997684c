-- Written by a program of this session (wip/myprint) out of the translation, for YtcpmoolpbeeedaaGreatDoor.
import Derived.Test.YtcpmoolpbeeedaaGreatDoorQ0
import Derived.Test.YtcpmoolpbeeedaaGreatDoorQ7
import Derived.Test.YtcpmoolpbeeedaaGreatDoorQ10
import Derived.Test.YtcpmoolpbeeedaaGreatDoorQ11
namespace Go.Proofs.YtcpmoolpbeeedaaGreatDoor.Q
open Go.RowKit Go.Proofs.YtcpmoolpbeeedaaGreatDoorW.PrintWords Go.Proofs.YtcpmoolpbeeedaaGreatDoorW.PrintLast Go.Proofs.YtcpmoolpbeeedaaGreatDoorW.PrintMore Go.Proofs.YtcpmoolpbeeedaaGreatDoorW.PrintSq
attribute [local go_sem] max2_int min2_int max_two min_two max_three min_three max_four min_four   -- for this text's walks alone
set_option linter.unusedVariables false
set_option linter.unusedSimpArgs false

/-! ### addr_joined: function 149 -/
mutual
def addr_joined.l0 : Nat → List (S158) → Bool → ByteArray → Option (ByteArray × (List (S158)) × Bool)
  | 0, _, _, _ => none
  | k + 1, x0, x1, x7 => if (x0.length : Int) = 0 then (none) else (if 0 < (x0.length : Int) then (if ((rd_T158 x0 0).f0) = 3 then (none) else (if x1 = true then (addr_joined.j1 k x0 x7 (((rd_T158 x0 0).f0) != 1)) else (addr_joined.j1 k x0 x7 false))) else (none))
def addr_joined.j1 : Nat → List (S158) → ByteArray → Bool → Option (ByteArray × (List (S158)) × Bool)
  | 0, _, _, _ => none
  | k + 1, x0, x7, x27 => if x27 = true then (none) else (if 0 < (x0.length : Int) then (if x7.size + ((rd_T158 x0 0).f1).size ≤ 9223372036854775807 then (if 1 ≤ (x0.length : Int) then ((some (x0.drop 1 : List (S158))).bind fun y234 => ((addr_is.f y234 (⟨#[46]⟩ : ByteArray)).bind fun t239 => (if t239 = true then (none) else (some (x7 ++ ((rd_T158 x0 0).f1), y234, true))))) else (none)) else (none)) else (none))
end
def addr_joined.f (k : Nat) (l0 : List (S158)) (a1 : Bool) : Option (ByteArray × (List (S158)) × Bool) := addr_joined.l0 k l0 a1 (⟨#[]⟩ : ByteArray)
theorem addr_joined.mono_l : ∀ k, (∀ y0 y1 y2, LeO (addr_joined.l0 k y0 y1 y2) (addr_joined.l0 (k + 1) y0 y1 y2)) ∧ (∀ y0 y1 y2, LeO (addr_joined.j1 k y0 y1 y2) (addr_joined.j1 (k + 1) y0 y1 y2))
  | 0 => ⟨fun _ _ _ r h => by simp [addr_joined.l0] at h, fun _ _ _ r h => by simp [addr_joined.j1] at h⟩
  | k + 1 => by
    obtain ⟨ih0, ih1⟩ := addr_joined.mono_l k
    refine ⟨?_, ?_⟩
    · intro y0 y1 y2
      unfold addr_joined.l0
      repeat' first | (with_reducible first | exact ih0 _ _ _ | exact ih1 _ _ _ | exact LeO.refl _ | exact LeO.none _ | refine LeO.ite ?_ ?_ | refine LeO.bind ?_ (fun _ => ?_)) | exact ih0 _ _ _ | exact ih1 _ _ _ | exact LeO.none _ | refine LeO.ite ?_ ?_ | refine LeO.bind ?_ (fun _ => ?_)
    · intro y0 y1 y2
      unfold addr_joined.j1
      repeat' first | (with_reducible first | exact ih0 _ _ _ | exact ih1 _ _ _ | exact LeO.refl _ | exact LeO.none _ | refine LeO.ite ?_ ?_ | refine LeO.bind ?_ (fun _ => ?_)) | exact ih0 _ _ _ | exact ih1 _ _ _ | exact LeO.none _ | refine LeO.ite ?_ ?_ | refine LeO.bind ?_ (fun _ => ?_)
theorem addr_joined.mono : ∀ a0 a1 k, LeO (addr_joined.f k a0 a1) (addr_joined.f (k + 1) a0 a1) := by
  intro a0 a1 k
  obtain ⟨ih0, ih1⟩ := addr_joined.mono_l k
  unfold addr_joined.f
  repeat' first | (with_reducible first | exact ih0 _ _ _ | exact ih1 _ _ _ | exact LeO.refl _ | exact LeO.none _ | refine LeO.ite ?_ ?_ | refine LeO.bind ?_ (fun _ => ?_)) | exact ih0 _ _ _ | exact ih1 _ _ _ | exact LeO.none _ | refine LeO.ite ?_ ?_ | refine LeO.bind ?_ (fun _ => ?_)
set_option maxHeartbeats 8000000 in
set_option maxRecDepth 100000 in
theorem addr_joined.calls (k : Nat) (P0_ : Nat → Prop) (A0 : Option Addr) (c0 : Nat) (l0 : List (S158)) (a1 : Bool) (r1 : ByteArray) (r2 : List (S158)) (r3 : Bool) (w : World) (hs0 : Kd.V k158 158 w w.heap.size (fun k_ => P0_ k_) (.slice A0 l0.length c0) l0) (h : addr_joined.f k l0 a1 = some (r1, r2, r3)) :
    Calls Tryz.prog 149 #[.slice A0 l0.length c0, .bool a1] w fun e w' => ∃ v1_ : Value, e = .returned (.tuple #[.string r1, v1_, .bool r3]) ∧ Kd.V k158 158 w' w.heap.size (fun k_ => (P0_ k_ ∨ w.heap.size ≤ k_)) v1_ r2 ∧ Below w.heap.size w w' := by
 have HO0 := Aside0.mk (show Kd.V k158 158 w w.heap.size (fun k_ => (P0_ k_ ∨ w.heap.size ≤ k_)) (.slice A0 l0.length c0) l0 from Kd.V_mono hs0 (fun k_ hk => .inl hk))
 have HB := Aside0.mk (Below.refl w.heap.size w)
 unfold addr_joined.f at h
 have H := h
 clear h
 have H' := Aside0.mk H
 clear H
 go_enter Tryz.func149, Tryz.ntmps149
 go_wp2
 go_loopg [0, 7] k (fun kq v0 v7 w' => ∃ (x0_1 : List (S158)) (x7_1 : ByteArray), v7 = .string x7_1 ∧ Aside0 (addr_joined.l0 kq x0_1 a1 x7_1 = some (r1, r2, r3)) ∧ Aside0 (kq ≤ k) ∧ Aside0 (Kd.V k158 158 w' w.heap.size (fun k_ => (P0_ k_ ∨ w.heap.size ≤ k_)) v0 x0_1) ∧ Aside0 (Below w.heap.size w w'))
 case atStart => exact ⟨(l0), ((⟨#[]⟩ : ByteArray)), eqs, H', ⟨Nat.le_refl _⟩, ⟨by (with_reducible repeat (first | apply Kd.V_alloc | apply Kd.V_drewN | apply Kd.V_drew)); exact HO0.out⟩, ⟨blw⟩⟩
 case round =>
  clear H'
  try clear c1
  try clear p2
  obtain ⟨x0_1, x7_1, rfl, HA, HK1, HO_0, HB⟩ := hrel
  cases gk with
  | zero => exact absurd HA.out (by simp [addr_joined.l0])
  | succ k1 =>
   have H := HA.out
   clear HA
   simp only [addr_joined.l0] at H
   have HC3 := Aside0.mk H
   clear H
   go_upto_region 2 with (fail)
   go_cut [27] (fun v27 wc => ∃ (kq : Nat) (x27_2 : Bool), v27 = .bool x27_2 ∧ Aside0 (addr_joined.j1 kq x0_1 x7_1 x27_2 = some (r1, r2, r3)) ∧ Aside0 (kq ≤ k1) ∧ Aside0 (Kd.V k158 158 wc w.heap.size (fun k_ => (P0_ k_ ∨ w.heap.size ≤ k_)) u0 x0_1) ∧ Aside0 (Below w.heap.size w wc))
   case first =>
    have H := HC3.out
    clear HC3
    obtain ⟨c4, H⟩ := iteN H
    have c4b0 := beq_eq_false_iff_ne.mpr c4
    have c4b1 := bne_iff_ne.mpr c4
    have c4b2 : ¬ (x0_1 = []) := fun h_ => c4 (by rw [h_]; rfl)
    (first | rw [c4b0] | (simp only [i64_w, i32_w]; rw [c4b0]) | skip)
    obtain ⟨c5, H⟩ := iteS H
    have c5b0 := decide_eq_true c5
    have c5b1 : decide (0 < x0_1.length) = true := decide_eq_true (by omega)
    clear c5
    obtain ⟨c6, H⟩ := iteN H
    have c6b0 := beq_eq_false_iff_ne.mpr c6
    have c6b1 := bne_iff_ne.mpr c6
    by_cases c7 : a1 = true
    ·subst c7
     rw [if_pos rfl] at H
     have H' := Aside0.mk H
     clear H
     obtain ⟨Ao8, co8, eo8⟩ := Kd.V_slice HO_0.out
     subst eo8
     have p231 : 0 ≤ (0 : Int) := (by omega)
     have q231 : 0 < (x0_1.length : Int) := od_
     obtain ⟨ad231, e231, hx231_0, hx231_1⟩ := at_T158 (Kd.V_reads' HO_0.out).2.2 0 p231 q231
     cases e231
     have qi231 : (0 < x0_1.length) = True := eq_true (by omega)
     (try rw [show ((0 : Int)).toNat = 0 from rfl] at hx231_0)
     (try rw [show 0 * 2 = 0 from rfl] at hx231_0)
     (try rw [Addr.add_zero'] at hx231_0)
     (try rw [show ((0 : Int)).toNat = 0 from rfl] at hx231_1)
     (try rw [show 0 * 2 = 0 from rfl] at hx231_1)
     (try rw [Addr.add_zero'] at hx231_1)
     replace p231 := eq_true p231
     replace q231 := eq_true q231
     have p232 : 0 ≤ (0 : Int) := (by omega)
     have q232 : 0 < (x0_1.length : Int) := od_
     obtain ⟨ad232, e232, hx232_0, hx232_1⟩ := at_T158 (Kd.V_reads' HO_0.out).2.2 0 p232 q232
     obtain rfl : ad231 = ad232 := (by injection e232)
     have qi232 : (0 < x0_1.length) = True := eq_true (by omega)
     (try rw [show ((0 : Int)).toNat = 0 from rfl] at hx232_0)
     (try rw [show 0 * 2 = 0 from rfl] at hx232_0)
     (try rw [Addr.add_zero'] at hx232_0)
     (try rw [show ((0 : Int)).toNat = 0 from rfl] at hx232_1)
     (try rw [show 0 * 2 = 0 from rfl] at hx232_1)
     (try rw [Addr.add_zero'] at hx232_1)
     replace p232 := eq_true p232
     replace q232 := eq_true q232
     go_wp2
     go_meet
     case rel => exact ⟨_, ((((rd_T158 x0_1 0).f0) != 1)), eqs, H', ⟨by have := HK1.out; first | omega | exact Nat.le_refl _⟩, ⟨by (with_reducible repeat (first | apply Kd.V_alloc | apply Kd.V_drewN | apply Kd.V_drew)); exact HO_0.out⟩, ⟨blw⟩⟩
    ·replace c7 := Bool.eq_false_iff.mpr c7
     subst c7
     rw [if_neg nft] at H
     have H' := Aside0.mk H
     clear H
     obtain ⟨Ao9, co9, eo9⟩ := Kd.V_slice HO_0.out
     subst eo9
     have p231 : 0 ≤ (0 : Int) := (by omega)
     have q231 : 0 < (x0_1.length : Int) := od_
     obtain ⟨ad231, e231, hx231_0, hx231_1⟩ := at_T158 (Kd.V_reads' HO_0.out).2.2 0 p231 q231
     cases e231
     have qi231 : (0 < x0_1.length) = True := eq_true (by omega)
     (try rw [show ((0 : Int)).toNat = 0 from rfl] at hx231_0)
     (try rw [show 0 * 2 = 0 from rfl] at hx231_0)
     (try rw [Addr.add_zero'] at hx231_0)
     (try rw [show ((0 : Int)).toNat = 0 from rfl] at hx231_1)
     (try rw [show 0 * 2 = 0 from rfl] at hx231_1)
     (try rw [Addr.add_zero'] at hx231_1)
     replace p231 := eq_true p231
     replace q231 := eq_true q231
     go_wp2
     go_meet
     case rel => exact ⟨_, (false), eqs, H', ⟨by have := HK1.out; first | omega | exact Nat.le_refl _⟩, ⟨by (with_reducible repeat (first | apply Kd.V_alloc | apply Kd.V_drewN | apply Kd.V_drew)); exact HO_0.out⟩, ⟨blw⟩⟩
   case rest =>
    clear HC3
    try clear c1
    try clear p2
    try clear q2
    try clear hx2
    try clear qi2
    try clear c4
    try clear c4b0
    try clear c4b1
    try clear c4b2
    try clear c5
    try clear c5b0
    try clear c5b1
    try clear c6
    try clear c6b0
    try clear c6b1
    try clear c7
    try clear hx231_0
    try clear hx231_1
    try clear hx232_0
    try clear hx232_1
    try clear p2
    try clear p231
    try clear p232
    try clear q231
    try clear q232
    obtain ⟨kq, x27_2, rfl, HA, HJ2, HO_0, HB⟩ := hcut
    cases kq with
    | zero => exact absurd HA.out (by simp [addr_joined.j1])
    | succ kj2 =>
     have H := HA.out
     clear HA
     simp only [addr_joined.j1] at H
     replace H := iteF H; obtain ⟨rfl, H⟩ := H
     obtain ⟨c11, H⟩ := iteS H
     have c11b0 := decide_eq_true c11
     have c11b1 : decide (0 < x0_1.length) = true := decide_eq_true (by omega)
     clear c11
     obtain ⟨c12, H⟩ := iteS H
     have c12b0 := eq_true c12
     have c12b1 := decide_eq_true c12
     try have c12b2 := eq_false (Nat.not_lt.2 c12)
     obtain ⟨c13, H⟩ := iteS H
     have c13b0 := eq_true c13
     have c13b1 := decide_eq_true c13
     clear c13
     obtain ⟨y234, hy234⟩ : ∃ y_ : List (S158), y_ = (x0_1.drop 1) := ⟨_, rfl⟩
     replace H : ((addr_is.f y234 (⟨#[46]⟩ : ByteArray)).bind fun t239 => (if t239 = true then (none) else (some (x7_1 ++ ((rd_T158 x0_1 0).f1), y234, true)))) = some (r1, r2, r3) := by first | (rw [hy234]; with_reducible exact H) | (have H2_ := (Option.bind_some _ _).symm.trans H; rw [hy234]; with_reducible exact H2_) | (have H2_ := (Option.bind_some _ _).symm.trans H; with_reducible exact H2_) | with_reducible exact H | (rw [hy234]; exact H) | exact H
     have Ny234 := Aside0.mk hy234
     clear hy234
     replace H := Option.bind_eq_some_iff.mp H
     obtain ⟨t239, A140, H⟩ := H
     try dsimp only at H
     have A14 := Aside0.mk A140
     clear A140
     replace H := iteF H; obtain ⟨rfl, H⟩ := H
     simp only [Option.some.injEq, Prod.mk.injEq] at H
     obtain ⟨rfl, rfl, rfl⟩ := H
     obtain ⟨Ao16, co16, eo16⟩ := Kd.V_slice HO_0.out
     subst eo16
     have p233 : 0 ≤ (0 : Int) := (by omega)
     have q233 : 0 < (x0_1.length : Int) := od_
     obtain ⟨ad233, e233, hx233_0, hx233_1⟩ := at_T158 (Kd.V_reads' HO_0.out).2.2 0 p233 q233
     cases e233
     have qi233 : (0 < x0_1.length) = True := eq_true (by omega)
     (try rw [show ((0 : Int)).toNat = 0 from rfl] at hx233_0)
     (try rw [show 0 * 2 = 0 from rfl] at hx233_0)
     (try rw [Addr.add_zero'] at hx233_0)
     (try rw [show ((0 : Int)).toNat = 0 from rfl] at hx233_1)
     (try rw [show 0 * 2 = 0 from rfl] at hx233_1)
     (try rw [Addr.add_zero'] at hx233_1)
     replace p233 := eq_true p233
     replace q233 := eq_true q233
     have q17 : (1 : Int) ≤ ((x0_1.length : Int) : Int) := od_
     obtain ⟨i017, hi017, _, hsz17, _⟩ := info_parts info158
     have hroom17 : x0_1.length ≤ co16 := (Kd.V_reads' HO_0.out).2.1
     have hC17 : Kd.F k158 _ _ (some ad233) x0_1.length x0_1 := (Kd.V_at (base := w.heap.size) HO_0.out).2.2
     have hcut17 := cut_from (P := Tryz.prog) 135 158 .i64 Tryz.underlying135 hi017 2 hsz17 (some ad233) x0_1.length co16 1 (by omega) q17
     have hr17 := Kd.F_cut (m := (1 : Int).toNat) (c := co16) hC17 (by omega) hroom17
     obtain ⟨A17, hA17⟩ : ∃ A1, A1 = (if co16 = (1 : Int).toNat then (some ad233) else ((some ad233) : Option Addr).map (·.add ((1 : Int).toNat * 2))) := ⟨_, rfl⟩
     obtain ⟨c17, hc17⟩ : ∃ c1, c1 = co16 - (1 : Int).toNat := ⟨_, rfl⟩
     have hy17 : y234.length = x0_1.length - (1 : Int).toNat := (by rw [Ny234.out, List.length_drop] <;> omega)
     rw [show (x0_1).drop (1 : Int).toNat = y234 from Ny234.out.symm] at hr17
     replace hr17 : Kd.F k158 _ _ A17 y234.length y234 := (by rw [hA17]; exact hr17)
     rw [← hy17, ← hA17, ← hc17] at hcut17
     have HO238 := Aside0.mk (show Kd.V k158 158 _ w.heap.size _ (.slice A17 y234.length c17) y234 from Kd.V_mk (by rw [hy17, hc17]; exact Nat.sub_le_sub_right hroom17 _) hr17)
     have HC238 := Aside0.mk (show y234.length ≤ c17 from by rw [hy17, hc17]; exact Nat.sub_le_sub_right hroom17 _)
     clear hr17 hC17 hroom17 hi017 hsz17 hc17
     have KY17 := Aside0.mk hy17
     have KA17 := Aside0.mk hA17
     clear hy17 hA17
     replace q17 := eq_true q17
     go_wp2_with (first | ((with_reducible refine gc 150 rfl ?_); refine gl_ (some 37) Tryz.func150 #[.slice A17 y234.length c17, .string (⟨#[46]⟩ : ByteArray)] ?_; (with_reducible refine (addr_is.calls _ _ y234 (⟨#[46]⟩ : ByteArray) false _ ?side1 ?side2 A14.out).mono ?_); (case side1 => repeat (first | exact (Kd.V_reads' HO238.out).2.2 | (with_reducible refine Kd.C_alloc ?_ _) | (with_reducible refine Kd.C_drewN ?_ _) | (with_reducible refine Kd.C_drew ?_))); (case side2 => exact (Kd.V_reads' HO238.out).2.1); rintro e w' ⟨rfl, ⟨nd, rfl⟩⟩; refine ⟨_, rfl, ?_⟩))
     go_ret3
     exact ⟨_, by first | rfl | (simp [errW_none, errW_some] <;> rfl) | (simp [*, errW_none, errW_some] <;> rfl), by (with_reducible repeat (first | apply Kd.V_alloc | apply Kd.V_drewN | apply Kd.V_drew)); exact HO238.out, blw⟩

/-! ### addr_Of: function 128 -/
mutual
def addr_Of.j0 : Nat → List (S158) → ByteArray → Bool → Option (ByteArray × ByteArray × Int)
  | 0, _, _, _ => none
  | k + 1, x0, x4, x21 => if x21 = true then (none) else (if 1 ≤ (x0.length : Int) then ((addr_joined.f k (x0.drop 1) true).bind fun bt257 => (if bt257.2.2 = true then (addr_Of.j1 k x4 bt257.1 (decide ((bt257.2.1.length : Int) > 0))) else (none))) else (none))
def addr_Of.j1 : Nat → ByteArray → ByteArray → Bool → Option (ByteArray × ByteArray × Int)
  | 0, _, _, _ => none
  | k + 1, x4, x6, x36 => if x36 = true then (none) else ((glyph_Fold.f x6).bind fun t262 => ((addr_why.f k x4 t262).bind fun t264 => (if t264 = 0 then (some (x4, t262, 0)) else (none))))
end
def addr_Of.f (k : Nat) (l0 : List (S158)) : Option (ByteArray × ByteArray × Int) := (addr_joined.f k l0 false).bind fun bt246 => (if bt246.2.2 = true then ((addr_is.f bt246.2.1 (⟨#[64]⟩ : ByteArray)).bind fun t251 => (addr_Of.j0 k bt246.2.1 bt246.1 (!t251))) else (none))
theorem addr_Of.mono_l : ∀ k, (∀ y0 y1 y2, LeO (addr_Of.j0 k y0 y1 y2) (addr_Of.j0 (k + 1) y0 y1 y2)) ∧ (∀ y0 y1 y2, LeO (addr_Of.j1 k y0 y1 y2) (addr_Of.j1 (k + 1) y0 y1 y2))
  | 0 => ⟨fun _ _ _ r h => by simp [addr_Of.j0] at h, fun _ _ _ r h => by simp [addr_Of.j1] at h⟩
  | k + 1 => by
    obtain ⟨ih0, ih1⟩ := addr_Of.mono_l k
    refine ⟨?_, ?_⟩
    · intro y0 y1 y2
      unfold addr_Of.j0
      repeat' first | (with_reducible first | exact ih0 _ _ _ | exact ih1 _ _ _ | exact addr_joined.mono _ _ _ | exact addr_why.mono _ _ _ | exact LeO.refl _ | exact LeO.none _ | refine LeO.ite ?_ ?_ | refine LeO.bind ?_ (fun _ => ?_)) | exact ih0 _ _ _ | exact ih1 _ _ _ | exact addr_joined.mono _ _ _ | exact addr_why.mono _ _ _ | exact LeO.none _ | refine LeO.ite ?_ ?_ | refine LeO.bind ?_ (fun _ => ?_)
    · intro y0 y1 y2
      unfold addr_Of.j1
      repeat' first | (with_reducible first | exact ih0 _ _ _ | exact ih1 _ _ _ | exact addr_joined.mono _ _ _ | exact addr_why.mono _ _ _ | exact LeO.refl _ | exact LeO.none _ | refine LeO.ite ?_ ?_ | refine LeO.bind ?_ (fun _ => ?_)) | exact ih0 _ _ _ | exact ih1 _ _ _ | exact addr_joined.mono _ _ _ | exact addr_why.mono _ _ _ | exact LeO.none _ | refine LeO.ite ?_ ?_ | refine LeO.bind ?_ (fun _ => ?_)
theorem addr_Of.mono : ∀ a0 k, LeO (addr_Of.f k a0) (addr_Of.f (k + 1) a0) := by
  intro a0 k
  obtain ⟨ih0, ih1⟩ := addr_Of.mono_l k
  unfold addr_Of.f
  repeat' first | (with_reducible first | exact ih0 _ _ _ | exact ih1 _ _ _ | exact addr_joined.mono _ _ _ | exact addr_why.mono _ _ _ | exact LeO.refl _ | exact LeO.none _ | refine LeO.ite ?_ ?_ | refine LeO.bind ?_ (fun _ => ?_)) | exact ih0 _ _ _ | exact ih1 _ _ _ | exact addr_joined.mono _ _ _ | exact addr_why.mono _ _ _ | exact LeO.none _ | refine LeO.ite ?_ ?_ | refine LeO.bind ?_ (fun _ => ?_)
set_option maxHeartbeats 8000000 in
set_option maxRecDepth 100000 in
theorem addr_Of.calls (k : Nat) (A0 : Option Addr) (c0 : Nat) (l0 : List (S158)) (r1 : ByteArray) (r2 : ByteArray) (r3 : Int) (w : World) (hr0 : Kd.C k158 w A0 l0.length l0) (hc0 : l0.length ≤ c0) (h : addr_Of.f k l0 = some (r1, r2, r3)) :
    Calls Tryz.prog 128 #[.slice A0 l0.length c0] w fun e w' => e = .returned (.tuple #[.agg #[.string r1, .string r2], .int .i64 r3]) ∧ Below w.heap.size w w' := by
 have hu32 := Tryz.underlying32
 have HR0 := Aside0.mk hr0
 have HC0 := Aside0.mk hc0
 clear hr0 hc0
 have HB := Aside0.mk (Below.refl w.heap.size w)
 unfold addr_Of.f at h
 have H := h
 clear h
 replace H := Option.bind_eq_some_iff.mp H
 obtain ⟨⟨t246, t247, t250⟩, A20, H⟩ := H
 try dsimp only at H
 have A2 := Aside0.mk A20
 clear A20
 have HC3 := Aside0.mk H
 clear H
 go_enter Tryz.func128, Tryz.ntmps128
 go_upto_region 2 with (first | ((with_reducible refine gate_dst (N := 2) rfl ?_); (try (refine gate_guard (by rfl) ?_; dsimp only)); refine box_event ?hg (N := 2) ?hd (cs := #[.string (⟨#[]⟩ : ByteArray), .string (⟨#[]⟩ : ByteArray)]) (t := 32) ?hr ?_; (case hd => rfl); (case hg => rfl); (case hr => first | (go_simp; done) | (go_simp; rfl)); intro gb245 hg w4 hbox hb; have BK245 := Aside0.mk (hbox); have GW245 : Aside0 (w.heap.size ≤ gb245) := gw_ hg; have GE245 : Aside0 (w.heap.size ≤ gb245) := gw_ hg; replace HB := Aside0.mk (below_step blw hb); clear hb hbox hg) | ((with_reducible refine gc 149 rfl ?_); refine gl_ (some 11) Tryz.func149 #[.slice A0 l0.length c0, .bool false] ?_; (with_reducible refine (addr_joined.calls k (fun k_ => k_ < w.heap.size) _ _ l0 false t246 t247 t250 _ ?side1 A2.out).mono ?_); (case side1 => exact Kd.V_mk HC0.out (Kd.F_below (Kd.C_F k158_heap HR0.out) blw)); rintro e w5 ⟨v248, rfl, ho0, hb⟩; refine ⟨_, rfl, ?_⟩; have HO249 := Aside0.mk (Kd.V_lower (Kd.V_mono (ok' := fun k_ => k_ ≠ gb245) ho0 (fun k_ hk_ => Or.elim hk_ (fun hs_ => fun e_ => Nat.not_le.2 hs_ (by rw [e_]; exact GW245.out)) (fun hn_ => (Kd.freshB (g := gb245) (o := .cells #[.string (⟨#[]⟩ : ByteArray), .string (⟨#[]⟩ : ByteArray)] 32 (0, 0)) (bkw BK245) k_ hn_)))) (below_size blw)); replace BK245 := Aside0.mk (blk_below (g := gb245) (o := .cells #[.string (⟨#[]⟩ : ByteArray), .string (⟨#[]⟩ : ByteArray)] 32 (0, 0)) (bkw BK245) hb); replace HB := Aside0.mk (below_step blw hb); (try clear hb); (try clear ho0)))
 (try simp only [Act.put, List.setIfInBounds_toArray, List.set_cons_zero, List.set_cons_succ])
 go_cut [21] (fun v21 wc => ∃ (kq : Nat) (x21_2 : Bool), v21 = .bool x21_2 ∧ Aside0 (addr_Of.j0 kq t247 t246 x21_2 = some (r1, r2, r3)) ∧ Aside0 (kq ≤ k) ∧ Aside0 (Kd.V k158 158 wc w.heap.size (fun k_ => k_ ≠ gb245) v248 t247) ∧ Aside0 (wc.heap[gb245]? = some (.cells #[.string (⟨#[]⟩ : ByteArray), .string (⟨#[]⟩ : ByteArray)] 32 (0, 0))) ∧ Aside0 (Below w.heap.size w wc))
 case first =>
  have H := HC3.out
  clear HC3
  obtain ⟨rfl, H⟩ := iteS H
  replace H := Option.bind_eq_some_iff.mp H
  obtain ⟨t251, A70, H⟩ := H
  try dsimp only at H
  have A7 := Aside0.mk A70
  clear A70
  have H' := Aside0.mk H
  clear H
  obtain ⟨Ao8, co8, eo8⟩ := Kd.V_slice HO249.out
  subst eo8
  go_wp2_with (first | (go_at_call 150; (with_reducible refine (addr_is.calls _ _ t247 (⟨#[64]⟩ : ByteArray) t251 _ ?side1 ?side2 A7.out).mono ?_); (case side1 => repeat (first | exact (Kd.V_reads' HO249.out).2.2 | (with_reducible refine Kd.C_alloc ?_ _) | (with_reducible refine Kd.C_drewN ?_ _) | (with_reducible refine Kd.C_drew ?_))); (case side2 => exact (Kd.V_reads' HO249.out).2.1); rintro e w' ⟨rfl, ⟨nd, rfl⟩⟩))
  go_meet
  case rel => exact ⟨_, (!t251), eqs, H', omk, ⟨by (with_reducible repeat (first | apply Kd.V_alloc | apply Kd.V_drewN | apply Kd.V_drew)); exact HO249.out⟩, ⟨bkw BK245⟩, ⟨blw⟩⟩
 case rest =>
  clear HC3
  try clear c1
  try clear p2
  try clear c6
  obtain ⟨kq, x21_2, rfl, HA, HJ2, HO_0, BK245, HB⟩ := hcut
  cases kq with
  | zero => exact absurd HA.out (by simp [addr_Of.j0])
  | succ kj2 =>
   have H := HA.out
   clear HA
   simp only [addr_Of.j0] at H
   replace H := iteF H; obtain ⟨rfl, H⟩ := H
   obtain ⟨c10, H⟩ := iteS H
   have c10b0 := eq_true c10
   have c10b1 := decide_eq_true c10
   clear c10
   obtain ⟨y252, hy252⟩ : ∃ y_ : List (S158), y_ = (t247.drop 1) := ⟨_, rfl⟩
   replace H : ((addr_joined.f kj2 y252 true).bind fun bt257 => (if bt257.2.2 = true then (addr_Of.j1 kj2 t246 bt257.1 (decide ((bt257.2.1.length : Int) > 0))) else (none))) = some (r1, r2, r3) := by first | (rw [hy252]; with_reducible exact H) | (have H2_ := (Option.bind_some _ _).symm.trans H; rw [hy252]; with_reducible exact H2_) | (have H2_ := (Option.bind_some _ _).symm.trans H; with_reducible exact H2_) | with_reducible exact H | (rw [hy252]; exact H) | exact H
   have Ny252 := Aside0.mk hy252
   clear hy252
   replace H := Option.bind_eq_some_iff.mp H
   obtain ⟨⟨t257, t258, t261⟩, A110, H⟩ := H
   try dsimp only at H
   have A11 := Aside0.mk A110
   clear A110
   have HC12 := Aside0.mk H
   clear H
   obtain ⟨Ao14, co14, eo14⟩ := Kd.V_slice HO_0.out
   subst eo14
   have q13 : (1 : Int) ≤ ((t247.length : Int) : Int) := od_
   obtain ⟨i013, hi013, _, hsz13, _⟩ := info_parts info158
   have hroom13 : t247.length ≤ co14 := (Kd.V_reads' HO_0.out).2.1
   have hC13 : Kd.F k158 _ _ Ao14 t247.length t247 := (Kd.V_at (base := w.heap.size) HO_0.out).2.2
   have hcut13 := cut_from (P := Tryz.prog) 135 158 .i64 Tryz.underlying135 hi013 2 hsz13 Ao14 t247.length co14 1 (by omega) q13
   have hr13 := Kd.F_cut (m := (1 : Int).toNat) (c := co14) hC13 (by omega) hroom13
   obtain ⟨A13, hA13⟩ : ∃ A1, A1 = (if co14 = (1 : Int).toNat then Ao14 else (Ao14 : Option Addr).map (·.add ((1 : Int).toNat * 2))) := ⟨_, rfl⟩
   obtain ⟨c13, hc13⟩ : ∃ c1, c1 = co14 - (1 : Int).toNat := ⟨_, rfl⟩
   have hy13 : y252.length = t247.length - (1 : Int).toNat := (by rw [Ny252.out, List.length_drop] <;> omega)
   rw [show (t247).drop (1 : Int).toNat = y252 from Ny252.out.symm] at hr13
   replace hr13 : Kd.F k158 _ _ A13 y252.length y252 := (by rw [hA13]; exact hr13)
   rw [← hy13, ← hA13, ← hc13] at hcut13
   have HO256 := Aside0.mk (show Kd.V k158 158 _ w.heap.size _ (.slice A13 y252.length c13) y252 from Kd.V_mk (by rw [hy13, hc13]; exact Nat.sub_le_sub_right hroom13 _) hr13)
   have HC256 := Aside0.mk (show y252.length ≤ c13 from by rw [hy13, hc13]; exact Nat.sub_le_sub_right hroom13 _)
   clear hr13 hC13 hroom13 hi013 hsz13 hc13
   have KY13 := Aside0.mk hy13
   have KA13 := Aside0.mk hA13
   clear hy13 hA13
   replace q13 := eq_true q13
   go_upto_region 5 with (first | ((with_reducible refine gc 149 rfl ?_); refine gl_ (some 26) Tryz.func149 #[.slice A13 y252.length c13, .bool true] ?_; (with_reducible refine (addr_joined.calls kj2 (fun k_ => k_ ≠ gb245) _ _ y252 true t257 t258 t261 _ ?side1 A11.out).mono ?_); (case side1 => exact HO256.out); rintro e w15 ⟨v259, rfl, ho0, hb⟩; refine ⟨_, rfl, ?_⟩; replace HO_0 := Aside0.mk (Kd.V_below (by (with_reducible repeat (first | apply Kd.V_alloc | apply Kd.V_drewN | apply Kd.V_drew)); exact HO_0.out) hb); replace HO256 := Aside0.mk (Kd.V_below (by (with_reducible repeat (first | apply Kd.V_alloc | apply Kd.V_drewN | apply Kd.V_drew)); exact HO256.out) hb); have HO260 := Aside0.mk (Kd.V_lower (Kd.V_mono (ok' := fun k_ => k_ ≠ gb245) ho0 (fun k_ hk_ => Or.elim hk_ (fun hs_ => hs_) (fun hn_ => (Kd.freshB (g := gb245) (o := .cells #[.string (⟨#[]⟩ : ByteArray), .string (⟨#[]⟩ : ByteArray)] 32 (0, 0)) (bkw BK245) k_ hn_)))) (below_size blw)); replace BK245 := Aside0.mk (blk_below (g := gb245) (o := .cells #[.string (⟨#[]⟩ : ByteArray), .string (⟨#[]⟩ : ByteArray)] 32 (0, 0)) (bkw BK245) hb); replace HB := Aside0.mk (below_step blw hb); (try clear hb); (try clear ho0)))
   (try simp only [Act.put, List.setIfInBounds_toArray, List.set_cons_zero, List.set_cons_succ])
   go_cut [36] (fun v36 wc => ∃ (kq : Nat) (x36_11 : Bool), v36 = .bool x36_11 ∧ Aside0 (addr_Of.j1 kq t246 t257 x36_11 = some (r1, r2, r3)) ∧ Aside0 (kq ≤ kj2) ∧ Aside0 (wc.heap[gb245]? = some (.cells #[.string (⟨#[]⟩ : ByteArray), .string (⟨#[]⟩ : ByteArray)] 32 (0, 0))) ∧ Aside0 (Below w.heap.size w wc))
   case first =>
    have H := HC12.out
    clear HC12
    obtain ⟨rfl, H⟩ := iteS H
    have H' := Aside0.mk H
    clear H
    obtain ⟨Ao17, co17, eo17⟩ := Kd.V_slice HO260.out
    subst eo17
    go_wp2
    go_meet
    case rel => exact ⟨_, (decide ((t258.length : Int) > 0)), eqs, H', ⟨by have := HJ2.out; first | omega | exact Nat.le_refl _⟩, ⟨bkw BK245⟩, ⟨blw⟩⟩
   case rest =>
    clear HC12
    try clear c1
    try clear q1
    try clear p2
    try clear c6
    try clear c9
    try clear c10
    try clear c10b0
    try clear c10b1
    try clear c12
    try clear c13
    try clear q13
    try clear c14
    try clear c16
    try clear p2
    try clear q13
    obtain ⟨kq, x36_11, rfl, HA, HJ11, BK245, HB⟩ := hcut
    cases kq with
    | zero => exact absurd HA.out (by simp [addr_Of.j1])
    | succ kj11 =>
     have H := HA.out
     clear HA
     simp only [addr_Of.j1] at H
     replace H := iteF H; obtain ⟨rfl, H⟩ := H
     replace H := Option.bind_eq_some_iff.mp H
     obtain ⟨t262, A190, H⟩ := H
     try dsimp only at H
     have A19 := Aside0.mk A190
     clear A190
     replace H := Option.bind_eq_some_iff.mp H
     obtain ⟨t264, A200, H⟩ := H
     try dsimp only at H
     have A20 := Aside0.mk A200
     clear A200
     obtain ⟨c21, H⟩ := iteS H
     have c21b0 := beq_iff_eq.mpr c21
     have c21b1 := bne_eq_false_iff_eq.mpr c21
     clear c21
     simp only [Option.some.injEq, Prod.mk.injEq] at H
     obtain ⟨rfl, rfl, rfl⟩ := H
     go_wp2_with (first | ((with_reducible refine gc 62 rfl ?_); refine cl_ (some 40) Tryz.func62 (glyph_Fold.calls t257 t262 _ A19.out) ?_; rintro w22 hb; replace BK245 := Aside0.mk (blk_below (g := gb245) (o := .cells #[.string (⟨#[]⟩ : ByteArray), .string (⟨#[]⟩ : ByteArray)] 32 (0, 0)) (bkw BK245) hb); replace HB := Aside0.mk (below_step blw hb); (try clear hb)) | ((with_reducible refine gate_dst (N := 7) rfl ?_); (try (refine gate_guard (by rfl) ?_; dsimp only)); refine box_event ?hg (N := 7) ?hd (cs := #[.string (⟨#[]⟩ : ByteArray), .string (⟨#[]⟩ : ByteArray)]) (t := 32) ?hr ?_; (case hd => rfl); (case hg => rfl); (case hr => first | (go_simp; done) | (go_simp; rfl)); intro gb263 hg w23 hbox hb; have BK263 := Aside0.mk (hbox); have GW263 : Aside0 (w.heap.size ≤ gb263) := gw_ hg; have GE263 : Aside0 (w.heap.size ≤ gb263) := gw_ hg; replace HB := Aside0.mk (below_step blw hb); have NB245_263 := Aside0.mk ((by rw [hg]; exact Nat.ne_of_lt (blk_lt (g := gb245) (o := .cells #[.string (⟨#[]⟩ : ByteArray), .string (⟨#[]⟩ : ByteArray)] 32 (0, 0)) (bkw BK245)) : gb245 ≠ gb263)); have NB263_245 := Aside0.mk ((by rw [hg]; exact Nat.ne_of_gt (blk_lt (g := gb245) (o := .cells #[.string (⟨#[]⟩ : ByteArray), .string (⟨#[]⟩ : ByteArray)] 32 (0, 0)) (bkw BK245)) : gb263 ≠ gb245)); replace BK245 := Aside0.mk (blk_below (g := gb245) (o := .cells #[.string (⟨#[]⟩ : ByteArray), .string (⟨#[]⟩ : ByteArray)] 32 (0, 0)) (bkw BK245) hb); clear hb hbox hg; have hnb24 := NB263_245.out; have hnc24 := NB245_263.out; have hcz25_0 : w23.cell? ⟨gb263, 0, none⟩ = some (.string (⟨#[]⟩ : ByteArray)) := bk_ BK263; have hcz25_1 : w23.cell? ⟨gb263, 1, none⟩ = some (.string (⟨#[]⟩ : ByteArray)) := bk_ BK263; have hfz25_0 := blk_frozen BK263.out 0; have hfz25_1 := blk_frozen BK263.out 1) | ((with_reducible refine gc 61 rfl ?_); refine cl_ (some 43) Tryz.func61 (addr_why.calls kj11 t246 t262 t264 _ A20.out) ?_; rintro w26 hb; replace BK245 := Aside0.mk (blk_below (g := gb245) (o := .cells #[.string (⟨#[]⟩ : ByteArray), .string (⟨#[]⟩ : ByteArray)] 32 (0, 0)) (by (with_reducible repeat (first | refine blk_drewN ?_ _ | refine blk_drew ?_ | refine blk_alloc ?_ _)); refine blk_far ?_ NB245_263.out _; (with_reducible repeat (first | refine blk_drewN ?_ _ | refine blk_drew ?_ | refine blk_alloc ?_ _)); refine blk_far ?_ NB245_263.out _; (with_reducible repeat (first | refine blk_drewN ?_ _ | refine blk_drew ?_ | refine blk_alloc ?_ _)); exact BK245.out) hb); replace BK263 := Aside0.mk (blk_below (g := gb263) (o := .cells #[.string t246, .string t262] 32 (0, 0)) (by (with_reducible repeat (first | refine blk_drewN ?_ _ | refine blk_drew ?_ | refine blk_alloc ?_ _)); refine blk_put (cs := #[.string t246, .string (⟨#[]⟩ : ByteArray)]) ?_ 1 _ rfl; (with_reducible repeat (first | refine blk_drewN ?_ _ | refine blk_drew ?_ | refine blk_alloc ?_ _)); refine blk_put (cs := #[.string (⟨#[]⟩ : ByteArray), .string (⟨#[]⟩ : ByteArray)]) ?_ 0 _ rfl; (with_reducible repeat (first | refine blk_drewN ?_ _ | refine blk_drew ?_ | refine blk_alloc ?_ _)); exact BK263.out) hb); replace HB := Aside0.mk (below_step blw hb); (try clear hb); have hcz27_0 : w26.cell? ⟨gb263, 0, none⟩ = some (.string t246) := bk_ BK263; have hcz27_1 : w26.cell? ⟨gb263, 1, none⟩ = some (.string t262) := bk_ BK263; have hfz27_0 := blk_frozen BK263.out 0; have hfz27_1 := blk_frozen BK263.out 1; have hcz28_0 : w26.cell? ⟨gb245, 0, none⟩ = some (.string (⟨#[]⟩ : ByteArray)) := bk_ BK245; have hcz28_1 : w26.cell? ⟨gb245, 1, none⟩ = some (.string (⟨#[]⟩ : ByteArray)) := bk_ BK245; have hfz28_0 := blk_frozen BK245.out 0; have hfz28_1 := blk_frozen BK245.out 1))
     refine bodyPost_ret (results_ct rfl _ _ gb245 32 #[.string t246, .string t262] (0, 0) _ rfl (by (with_reducible repeat (first | refine blk_drewN ?_ _ | refine blk_drew ?_ | refine blk_alloc ?_ _)); refine blk_put (cs := #[.string t246, .string (⟨#[]⟩ : ByteArray)]) ?_ 1 _ rfl; (with_reducible repeat (first | refine blk_drewN ?_ _ | refine blk_drew ?_ | refine blk_alloc ?_ _)); refine blk_put (cs := #[.string (⟨#[]⟩ : ByteArray), .string (⟨#[]⟩ : ByteArray)]) ?_ 0 _ rfl; (with_reducible repeat (first | refine blk_drewN ?_ _ | refine blk_drew ?_ | refine blk_alloc ?_ _)); exact BK245.out) Tryz.underlying32 rfl (by kernel_rfl)) rfl ?_
     exact ⟨by first | rfl | (simp [errW_none, errW_some] <;> rfl) | (simp [*, errW_none, errW_some] <;> rfl), blw⟩

/-! ### addr_Parse: function 99 -/
def addr_Parse.f (k : Nat) (a0 : ByteArray) : Option (ByteArray × ByteArray × Int) := (lex_Scan.f k a0).bind fun bt266 => (if bt266.2 = 0 then ((addr_Of.f k bt266.1).bind fun bt270 => (some (bt270.1, bt270.2.1, bt270.2.2))) else (none))
theorem addr_Parse.mono : ∀ a0 k, LeO (addr_Parse.f k a0) (addr_Parse.f (k + 1) a0) := by
  intro a0 k
  unfold addr_Parse.f
  repeat' first | (with_reducible first | exact addr_Of.mono _ _ | exact lex_Scan.mono _ _ | exact LeO.refl _ | exact LeO.none _ | refine LeO.ite ?_ ?_ | refine LeO.bind ?_ (fun _ => ?_)) | exact addr_Of.mono _ _ | exact lex_Scan.mono _ _ | exact LeO.none _ | refine LeO.ite ?_ ?_ | refine LeO.bind ?_ (fun _ => ?_)
set_option maxHeartbeats 8000000 in
set_option maxRecDepth 100000 in
theorem addr_Parse.calls (k : Nat) (a0 : ByteArray) (r1 : ByteArray) (r2 : ByteArray) (r3 : Int) (w : World) (h : addr_Parse.f k a0 = some (r1, r2, r3)) :
    Calls Tryz.prog 99 #[.string a0] w fun e w' => e = .returned (.tuple #[.agg #[.string r1, .string r2], .int .i64 r3]) ∧ Below w.heap.size w w' := by
 have hu32 := Tryz.underlying32
 have HB := Aside0.mk (Below.refl w.heap.size w)
 unfold addr_Parse.f at h
 have H := h
 clear h
 replace H := Option.bind_eq_some_iff.mp H
 obtain ⟨⟨t266, t267⟩, A20, H⟩ := H
 try dsimp only at H
 have A2 := Aside0.mk A20
 clear A20
 obtain ⟨c3, H⟩ := iteS H
 have c3b0 := beq_iff_eq.mpr c3
 have c3b1 := bne_eq_false_iff_eq.mpr c3
 clear c3
 replace H := Option.bind_eq_some_iff.mp H
 obtain ⟨⟨t270, t271, t272⟩, A40, H⟩ := H
 try dsimp only at H
 have A4 := Aside0.mk A40
 clear A40
 simp only [Option.some.injEq, Prod.mk.injEq] at H
 obtain ⟨rfl, rfl, rfl⟩ := H
 go_enter Tryz.func99, Tryz.ntmps99
 go_wp2_with (first | ((with_reducible refine gate_dst (N := 2) rfl ?_); refine box_event ?hg (N := 2) ?hd (cs := #[.string (⟨#[]⟩ : ByteArray), .string (⟨#[]⟩ : ByteArray)]) (t := 32) ?hr ?_; (case hd => rfl); (case hg => rfl); (case hr => first | (go_simp; done) | (go_simp; rfl)); intro gb265 hg w5 hbox hb; have BK265 := Aside0.mk (hbox); have GW265 : Aside0 (w.heap.size ≤ gb265) := gw_ hg; have GE265 : Aside0 (w.heap.size ≤ gb265) := gw_ hg; replace HB := Aside0.mk (below_step blw hb); clear hb hbox hg) | ((with_reducible refine gc 127 rfl ?_); refine gl_ (some 8) Tryz.func127 #[.string a0] ?_; (with_reducible refine (lex_Scan.calls k a0 t266 t267 _ A2.out).mono ?_); rintro e w6 ⟨v268, rfl, ho0, hb⟩; refine ⟨_, rfl, ?_⟩; have HO269 := Aside0.mk (Kd.R_lower ho0 (below_size blw)); replace BK265 := Aside0.mk (blk_below (g := gb265) (o := .cells #[.string (⟨#[]⟩ : ByteArray), .string (⟨#[]⟩ : ByteArray)] 32 (0, 0)) (bkw BK265) hb); replace HB := Aside0.mk (below_step blw hb); (try clear hb); (try clear ho0); obtain ⟨Ao7, co7, eo7⟩ := Kd.R_slice HO269.out; subst eo7) | ((with_reducible refine gc 128 rfl ?_); refine gl_ (some 15) Tryz.func128 #[.slice Ao7 t266.length co7] ?_; (with_reducible refine (addr_Of.calls k _ _ t266 t270 t271 t272 _ ?side1 ?side2 A4.out).mono ?_); (case side1 => repeat (first | exact (Kd.R_reads' HO269.out).2.2 | (with_reducible refine Kd.C_alloc ?_ _) | (with_reducible refine Kd.C_drewN ?_ _) | (with_reducible refine Kd.C_drew ?_))); (case side2 => exact (Kd.R_reads' HO269.out).2.1); rintro e w8 ⟨rfl, hb⟩; refine ⟨_, rfl, ?_⟩; replace HO269 := Aside0.mk (Kd.R_below (by (with_reducible repeat (first | apply Kd.R_alloc | apply Kd.R_drewN | apply Kd.R_drew)); exact HO269.out) hb); replace BK265 := Aside0.mk (blk_below (g := gb265) (o := .cells #[.string (⟨#[]⟩ : ByteArray), .string (⟨#[]⟩ : ByteArray)] 32 (0, 0)) (bkw BK265) hb); replace HB := Aside0.mk (below_step blw hb); (try clear hb); have hcz9_0 : w8.cell? ⟨gb265, 0, none⟩ = some (.string (⟨#[]⟩ : ByteArray)) := bk_ BK265; have hcz9_1 : w8.cell? ⟨gb265, 1, none⟩ = some (.string (⟨#[]⟩ : ByteArray)) := bk_ BK265; have hfz9_0 := blk_frozen BK265.out 0; have hfz9_1 := blk_frozen BK265.out 1))
 refine bodyPost_ret (results_ct rfl _ _ gb265 32 #[.string t270, .string t271] (0, 0) _ rfl (by (with_reducible repeat (first | refine blk_drewN ?_ _ | refine blk_drew ?_ | refine blk_alloc ?_ _)); refine blk_put (cs := #[.string t270, .string (⟨#[]⟩ : ByteArray)]) ?_ 1 _ rfl; (with_reducible repeat (first | refine blk_drewN ?_ _ | refine blk_drew ?_ | refine blk_alloc ?_ _)); refine blk_put (cs := #[.string (⟨#[]⟩ : ByteArray), .string (⟨#[]⟩ : ByteArray)]) ?_ 0 _ rfl; (with_reducible repeat (first | refine blk_drewN ?_ _ | refine blk_drew ?_ | refine blk_alloc ?_ _)); exact BK265.out) Tryz.underlying32 rfl (by kernel_rfl)) rfl ?_
 exact ⟨by first | rfl | (simp [errW_none, errW_some] <;> rfl) | (simp [*, errW_none, errW_some] <;> rfl), blw⟩

/-! ### strings_Fields: function 129 -/
def strings_Fields.f (a0 : ByteArray) : Option (List ByteArray) := if a0.size < 4294967281 then (some ((Lib.fieldsD a0.data.toList).map fun x => ⟨x.toArray⟩)) else none
theorem strings_Fields.calls (a0 : ByteArray) (r : List ByteArray) (w : World) (hG : Amb w) (h : strings_Fields.f a0 = some r) :
    Calls Tryz.prog 129 #[.string a0] w fun e w' => ∃ v0_ : Value, e = .returned (v0_) ∧ Kd.R Kd.string 9 w' w.heap.size (fun _ => True) v0_ r ∧ Below w.heap.size w w' := by
 unfold strings_Fields.f at h
 by_cases h0 : a0.size < 4294967281
 ·rw [if_pos h0] at h
  obtain rfl := Option.some.inj h
  refine (Tryz.strings_Fields_any a0 w h0 hG.space hG.white).mono ?_
  rintro e w' ⟨A, rfl, hA, ho, hb⟩
  refine ⟨_, rfl, ?_, hb⟩
  have hl : ((Lib.fieldsD a0.data.toList).map fun x => (⟨x.toArray⟩ : ByteArray)).length = (Lib.fieldsD a0.data.toList).length := by simp
  have he : encs Value.string ((Lib.fieldsD a0.data.toList).map fun x => (⟨x.toArray⟩ : ByteArray)) = (Lib.fieldsD a0.data.toList).map fun x => Value.string ⟨x.toArray⟩ := by simp [encs, List.map_map, Function.comp_def]
  rw [← hl]
  refine Kd.R_of_own ?_ (fun _ _ => trivial)
  rw [hl]
  show w'.ownsRow _ _ _ _ _ (encs Value.string _)
  rw [he]
  exact ho
 ·rw [if_neg h0] at h
  cases h

/-! ### stringslite_CutSuffix: function 101 -/
def stringslite_CutSuffix.f (a0 : ByteArray) (a1 : ByteArray) : Option (ByteArray × Bool) := (stringslite_HasSuffix.f a0 a1).bind fun t273 => (if t273 = true then (if 0 ≤ (wrap64 ((a0.size : Int) - (a1.size : Int))) then (if (wrap64 ((a0.size : Int) - (a1.size : Int))) ≤ (a0.size : Int) then (some (a0.extract 0 ((wrap64 ((a0.size : Int) - (a1.size : Int))) : Int).toNat, true)) else (none)) else (none)) else (none))
set_option maxHeartbeats 8000000 in
set_option maxRecDepth 100000 in
theorem stringslite_CutSuffix.calls (a0 : ByteArray) (a1 : ByteArray) (r1 : ByteArray) (r2 : Bool) (w : World) (h : stringslite_CutSuffix.f a0 a1 = some (r1, r2)) :
    Calls Tryz.prog 101 #[.string a0, .string a1] w fun e w' => e = .returned (.tuple #[.string r1, .bool r2]) ∧ Drawn0 w w' := by
 unfold stringslite_CutSuffix.f at h
 have H := h
 clear h
 replace H := Option.bind_eq_some_iff.mp H
 obtain ⟨t273, A30, H⟩ := H
 try dsimp only at H
 have A3 := Aside0.mk A30
 clear A30
 obtain ⟨rfl, H⟩ := iteS H
 obtain ⟨ji5, hji5⟩ : ∃ j_ : Int, (wrap64 ((a0.size : Int) - (a1.size : Int))) = j_ := ⟨_, rfl⟩
 replace H : (if 0 ≤ (ji5) then (if (ji5) ≤ (a0.size : Int) then (some (a0.extract 0 ((ji5) : Int).toNat, true)) else (none)) else (none)) = some (r1, r2) := by first | (rw [hji5] at H; exact H) | (simp only [hji5] at H ⊢; exact H)
 (try rw [hji5] at A3)
 have hji5w : (IntKind.i64.wrap ((a0.size : Int) - (a1.size : Int))) = ji5 := (i64_w _).trans hji5
 obtain ⟨c6, H⟩ := iteS H
 have c6b0 := eq_true c6
 have c6b1 := decide_eq_true c6
 clear c6
 obtain ⟨c7, H⟩ := iteS H
 have c7b0 := eq_true c7
 have c7b1 := decide_eq_true c7
 clear c7
 simp only [Option.some.injEq, Prod.mk.injEq] at H
 obtain ⟨rfl, rfl⟩ := H
 go_enter Tryz.func101, Tryz.ntmps101
 go_wp2_with (first | ((with_reducible refine gc 53 rfl ?_); refine cl_ (some 8) Tryz.func53 (stringslite_HasSuffix.calls a0 a1 true _ A3.out) ?_; rintro w' ⟨nd, rfl⟩))
 go_ret2
 exact ⟨by first | rfl | (simp; done) | (simp only [← hji5] <;> (first | rfl | simp)) | (simp [*]; done), drw⟩

/-! ### strings_CutSuffix: function 69 -/
def strings_CutSuffix.f (a0 : ByteArray) (a1 : ByteArray) : Option (ByteArray × Bool) := (stringslite_CutSuffix.f a0 a1).bind fun bt274 => (some (bt274.1, bt274.2))
set_option maxHeartbeats 8000000 in
set_option maxRecDepth 100000 in
theorem strings_CutSuffix.calls (a0 : ByteArray) (a1 : ByteArray) (r1 : ByteArray) (r2 : Bool) (w : World) (h : strings_CutSuffix.f a0 a1 = some (r1, r2)) :
    Calls Tryz.prog 69 #[.string a0, .string a1] w fun e w' => e = .returned (.tuple #[.string r1, .bool r2]) ∧ Drawn0 w w' := by
 unfold strings_CutSuffix.f at h
 have H := h
 clear h
 replace H := Option.bind_eq_some_iff.mp H
 obtain ⟨⟨t274, t275⟩, A30, H⟩ := H
 try dsimp only at H
 have A3 := Aside0.mk A30
 clear A30
 simp only [Option.some.injEq, Prod.mk.injEq] at H
 obtain ⟨rfl, rfl⟩ := H
 go_enter Tryz.func69, Tryz.ntmps69
 go_wp2_with (first | ((with_reducible refine gc 101 rfl ?_); refine cl_ (some 8) Tryz.func101 (stringslite_CutSuffix.calls a0 a1 t274 t275 _ A3.out) ?_; rintro w' ⟨nd, rfl⟩))
 go_ret2
 exact ⟨eqs, drw⟩

/-! ### glyph_Words: function 153 -/
def glyph_Words.blank (x : Nat) : Bool := x == 32 || x == 9 || x == 13 || x == 10
def glyph_Words.f (a0 : ByteArray) : Option (List ByteArray) := if a0.size ≤ 4294967296 then (some (Lib.goFieldsP glyph_Words.blank a0)) else none
set_option maxHeartbeats 1000000 in
theorem glyph_Words.blank_any (x : Nat) (w : World) (hx : x ≤ 1114111) :
    Calls Tryz.prog 172 #[.int .i32 x] w fun e w' => e = .returned (.bool (glyph_Words.blank x)) ∧ Below w.heap.size w w' := by
  by_cases h1 : x = 32
  · subst h1
    go_enter Tryz.func172, Tryz.ntmps172
    go_wp2
    go_ret
    exact ⟨rfl, Below.refl _ _⟩
  by_cases h2 : x = 9
  · subst h2
    go_enter Tryz.func172, Tryz.ntmps172
    go_wp2
    go_ret
    exact ⟨rfl, Below.refl _ _⟩
  by_cases h3 : x = 13
  · subst h3
    go_enter Tryz.func172, Tryz.ntmps172
    go_wp2
    go_ret
    exact ⟨rfl, Below.refl _ _⟩
  by_cases h4 : x = 10
  · subst h4
    go_enter Tryz.func172, Tryz.ntmps172
    go_wp2
    go_ret
    exact ⟨rfl, Below.refl _ _⟩
  have e1 : ((x : Int) == 32) = false := beq_eq_false_iff_ne.2 (by omega)
  have e2 : ((x : Int) == 9) = false := beq_eq_false_iff_ne.2 (by omega)
  have e3 : ((x : Int) == 13) = false := beq_eq_false_iff_ne.2 (by omega)
  have e4 : ((x : Int) == 10) = false := beq_eq_false_iff_ne.2 (by omega)
  have hb : glyph_Words.blank x = false := by unfold glyph_Words.blank; simp [h1, h2, h3, h4]
  rw [hb]
  clear hb h1 h2 h3 h4
  go_enter Tryz.func172, Tryz.ntmps172
  go_wp2
  go_ret
  exact ⟨rfl, Below.refl _ _⟩
theorem glyph_Words.calls (a0 : ByteArray) (r : List ByteArray) (w : World) (h : glyph_Words.f a0 = some r) :
    Calls Tryz.prog 153 #[.string a0] w fun e w' => ∃ v0_ : Value, e = .returned (v0_) ∧ Kd.R Kd.string 9 w' w.heap.size (fun _ => True) v0_ r ∧ Below w.heap.size w w' := by
 unfold glyph_Words.f at h
 by_cases h0 : a0.size ≤ 4294967296
 ·rw [if_pos h0] at h
  obtain rfl := Option.some.inj h
  clear h
  go_enter Tryz.func153, Tryz.ntmps153
  go_wp2_with fail
  refine (Tryz.strings_FieldsFunc_grows 172 #[] (enters_of Tryz.func172 (by kernel_rfl) rfl) glyph_Words.blank a0 _ h0 (fun W x hx _ => glyph_Words.blank_any x W hx)).mono ?_
  rintro e w1 ⟨ad, rfl, hle, hown, hb⟩
  go_wp2_with fail
  go_ret
  exact ⟨_, rfl, Kd.R_of_own hown (fun _ _ => trivial), hb⟩
 ·rw [if_neg h0] at h
  cases h

end Go.Proofs.YtcpmoolpbeeedaaGreatDoor.Q
