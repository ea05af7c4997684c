-- Written by a program of this session (wip/myprint) out of the translation, for YtcpmoolpbeeedaaGreatDoor.
import Derived.Test.YtcpmoolpbeeedaaGreatDoorQ0
import Derived.Test.YtcpmoolpbeeedaaGreatDoorQ20
import Derived.Test.YtcpmoolpbeeedaaGreatDoorQ21
import Derived.Test.YtcpmoolpbeeedaaGreatDoorQ23
import Derived.Test.YtcpmoolpbeeedaaGreatDoorQ24
import Derived.Test.YtcpmoolpbeeedaaGreatDoorQ25
namespace Go.Proofs.YtcpmoolpbeeedaaGreatDoor.Q
open Go.RowKit Go.Proofs.YtcpmoolpbeeedaaGreatDoorW.PrintWords Go.Proofs.YtcpmoolpbeeedaaGreatDoorW.PrintLast Go.Proofs.YtcpmoolpbeeedaaGreatDoorW.PrintMore Go.Proofs.YtcpmoolpbeeedaaGreatDoorW.PrintSq
attribute [local go_sem] max2_int min2_int max_two min_two max_three min_three max_four min_four   -- for this text's walks alone
set_option linter.unusedVariables false
set_option linter.unusedSimpArgs false

/-! ### bulletinref13_Domain: function 96 -/
def bulletinref13_Domain.l0 : Nat → ByteArray → List ByteArray → Bool → Int → Option (ByteArray × Int)
  | 0, _, _, _, _ => none
  | k + 1, x0, x4, x5, x6 => if x6 < (x4.length : Int) then (if 0 ≤ x6 then ((bulletinref13_label.f k (rdOf ByteArray.empty x4 x6)).bind fun t477 => (if t477 = true then (if ((rdOf ByteArray.empty x4 x6).size : Int) > 63 then (bulletinref13_Domain.l0 k x0 x4 true (wrap64 (x6 + 1))) else (bulletinref13_Domain.l0 k x0 x4 x5 (wrap64 (x6 + 1)))) else (some ((⟨#[]⟩ : ByteArray), 130)))) else (none)) else (if x5 = true then (some ((⟨#[]⟩ : ByteArray), 2)) else ((bulletinref06_Fold.f k x0).bind fun t475 => (some (t475, 0))))
def bulletinref13_Domain.f (k : Nat) (a0 : ByteArray) : Option (ByteArray × Int) := (bulletinref13_Split.f k a0 46).bind fun t472 => (bulletinref13_Domain.l0 k a0 t472 (decide ((a0.size : Int) > 253)) 0)
theorem bulletinref13_Domain.mono_l : ∀ k, (∀ y0 y1 y2 y3, LeO (bulletinref13_Domain.l0 k y0 y1 y2 y3) (bulletinref13_Domain.l0 (k + 1) y0 y1 y2 y3))
  | 0 => fun _ _ _ _ r h => by simp [bulletinref13_Domain.l0] at h
  | k + 1 => by
    have ih0 := bulletinref13_Domain.mono_l k
    · intro y0 y1 y2 y3
      unfold bulletinref13_Domain.l0
      repeat' first | (with_reducible first | exact ih0 _ _ _ _ | exact bulletinref06_Fold.mono _ _ | exact bulletinref13_Split.mono _ _ _ | exact bulletinref13_label.mono _ _ | exact LeO.refl _ | exact LeO.none _ | refine LeO.ite ?_ ?_ | refine LeO.bind ?_ (fun _ => ?_)) | exact ih0 _ _ _ _ | exact bulletinref06_Fold.mono _ _ | exact bulletinref13_Split.mono _ _ _ | exact bulletinref13_label.mono _ _ | exact LeO.none _ | refine LeO.ite ?_ ?_ | refine LeO.bind ?_ (fun _ => ?_)
theorem bulletinref13_Domain.mono : ∀ a0 k, LeO (bulletinref13_Domain.f k a0) (bulletinref13_Domain.f (k + 1) a0) := by
  intro a0 k
  have ih0 := bulletinref13_Domain.mono_l k
  unfold bulletinref13_Domain.f
  repeat' first | (with_reducible first | exact ih0 _ _ _ _ | exact bulletinref06_Fold.mono _ _ | exact bulletinref13_Split.mono _ _ _ | exact bulletinref13_label.mono _ _ | exact LeO.refl _ | exact LeO.none _ | refine LeO.ite ?_ ?_ | refine LeO.bind ?_ (fun _ => ?_)) | exact ih0 _ _ _ _ | exact bulletinref06_Fold.mono _ _ | exact bulletinref13_Split.mono _ _ _ | exact bulletinref13_label.mono _ _ | exact LeO.none _ | refine LeO.ite ?_ ?_ | refine LeO.bind ?_ (fun _ => ?_)
set_option maxHeartbeats 8000000 in
set_option maxRecDepth 100000 in
theorem bulletinref13_Domain.calls (k : Nat) (a0 : ByteArray) (r1 : ByteArray) (r2 : Int) (w : World) (h : bulletinref13_Domain.f k a0 = some (r1, r2)) :
    Calls Tryz.prog 96 #[.string a0] w fun e w' => e = .returned (.tuple #[.string r1, .int .i64 r2]) ∧ Below w.heap.size w w' := by
 have HB := Aside0.mk (Below.refl w.heap.size w)
 unfold bulletinref13_Domain.f at h
 have H := h
 clear h
 replace H := Option.bind_eq_some_iff.mp H
 obtain ⟨t472, A20, H⟩ := H
 try dsimp only at H
 have A2 := Aside0.mk A20
 clear A20
 have H' := Aside0.mk H
 clear H
 go_enter Tryz.func96, Tryz.ntmps96
 go_wp2_with (first | ((with_reducible refine gc 87 rfl ?_); refine gl_ (some 8) Tryz.func87 #[.string a0, .int .u8 46] ?_; (with_reducible refine (bulletinref13_Split.calls k a0 46 t472 _ A2.out).mono ?_); rintro e w3 ⟨v473, rfl, ho0, hb⟩; refine ⟨_, rfl, ?_⟩; have HO474 := Aside0.mk (Kd.R_lower ho0 (below_size blw)); replace HB := Aside0.mk (below_step blw hb); (try clear hb); (try clear ho0)))
 go_loopg [5, 6] k (fun kq v5 v6 w' => ∃ (x5_1 : Bool) (x6_1 : Int), v5 = .bool x5_1 ∧ v6 = .int .i64 x6_1 ∧ Aside0 (bulletinref13_Domain.l0 kq a0 t472 x5_1 x6_1 = some (r1, r2)) ∧ Aside0 (kq ≤ k) ∧ Aside0 (Kd.R Kd.string 9 w' w.heap.size (fun _ => True) v473 t472) ∧ Aside0 (Below w.heap.size w w'))
 case atStart => exact ⟨(decide ((a0.size : Int) > 253)), (0), eqs, eqs, H', ⟨Nat.le_refl _⟩, ⟨by (with_reducible repeat (first | apply Kd.R_alloc | apply Kd.R_drewN | apply Kd.R_drew)); exact HO474.out⟩, ⟨blw⟩⟩
 case round =>
  clear H'
  try clear p2
  obtain ⟨x5_1, x6_1, rfl, rfl, HA, HK1, HO_4, HB⟩ := hrel
  cases gk with
  | zero => exact absurd HA.out (by simp [bulletinref13_Domain.l0])
  | succ k1 =>
   have H := HA.out
   clear HA
   simp only [bulletinref13_Domain.l0] at H
   by_cases c4 : x6_1 < (t472.length : Int)
   ·rw [if_pos c4] at H
    have c4b0 := decide_eq_true c4
    clear c4
    obtain ⟨c5, H⟩ := iteS H
    have c5b0 := decide_eq_true c5
    clear c5
    replace H := Option.bind_eq_some_iff.mp H
    obtain ⟨t477, A60, H⟩ := H
    try dsimp only at H
    have A6 := Aside0.mk A60
    clear A60
    by_cases c7 : t477 = true
    ·subst c7
     rw [if_pos rfl] at H
     by_cases c8 : ((rdOf ByteArray.empty t472 x6_1).size : Int) > 63
     ·rw [if_pos c8] at H
      have c8b0 : decide (63 < ((rdOf ByteArray.empty t472 x6_1).size : Int)) = true := decide_eq_true c8
      have c8b1 : decide (63 < (rdOf ByteArray.empty t472 x6_1).size) = true := decide_eq_true (by omega)
      clear c8
      have H' := Aside0.mk H
      clear H
      obtain ⟨Ao9, co9, eo9⟩ := Kd.R_slice HO_4.out
      subst eo9
      have p476 : 0 ≤ (x6_1 : Int) := od_
      have q476 : x6_1 < (t472.length : Int) := od_
      obtain ⟨ad476, e476, hx476_0⟩ := Kd.at_string (Kd.R_reads' HO_4.out).2.2 x6_1 p476 q476
      cases e476
      replace p476 := eq_true p476
      replace q476 := eq_true q476
      go_wp2_with (first | ((with_reducible refine gc 122 rfl ?_); refine cl_ (some 22) Tryz.func122 (bulletinref13_label.calls k1 (rdOf ByteArray.empty t472 x6_1) true _ A6.out) ?_; rintro w' ⟨nd, rfl⟩; have p478 : 0 ≤ (x6_1 : Int) := od_; have q478 : x6_1 < (t472.length : Int) := od_; obtain ⟨ad478, e478, hx478_0⟩ := Kd.at_string (Kd.R_reads' HO_4.out).2.2 x6_1 p478 q478; obtain rfl : ad476 = ad478 := (by injection e478); replace p478 := eq_true p478; replace q478 := eq_true q478))
      go_roundg k1
      case measure => have := HK1.out; omega
      case rel => exact ⟨(true), (wrap64 (x6_1 + 1)), eqs, eqs, H', ⟨by have := HK1.out; omega⟩, ⟨by (with_reducible repeat (first | apply Kd.R_alloc | apply Kd.R_drewN | apply Kd.R_drew)); exact HO_4.out⟩, ⟨blw⟩⟩
     ·rw [if_neg c8] at H
      have c8b0 : decide (63 < ((rdOf ByteArray.empty t472 x6_1).size : Int)) = false := decide_eq_false c8
      have c8b1 : decide (63 < (rdOf ByteArray.empty t472 x6_1).size) = false := decide_eq_false (by omega)
      clear c8
      have H' := Aside0.mk H
      clear H
      obtain ⟨Ao10, co10, eo10⟩ := Kd.R_slice HO_4.out
      subst eo10
      have p476 : 0 ≤ (x6_1 : Int) := od_
      have q476 : x6_1 < (t472.length : Int) := od_
      obtain ⟨ad476, e476, hx476_0⟩ := Kd.at_string (Kd.R_reads' HO_4.out).2.2 x6_1 p476 q476
      cases e476
      replace p476 := eq_true p476
      replace q476 := eq_true q476
      go_wp2_with (first | ((with_reducible refine gc 122 rfl ?_); refine cl_ (some 22) Tryz.func122 (bulletinref13_label.calls k1 (rdOf ByteArray.empty t472 x6_1) true _ A6.out) ?_; rintro w' ⟨nd, rfl⟩; have p478 : 0 ≤ (x6_1 : Int) := od_; have q478 : x6_1 < (t472.length : Int) := od_; obtain ⟨ad478, e478, hx478_0⟩ := Kd.at_string (Kd.R_reads' HO_4.out).2.2 x6_1 p478 q478; obtain rfl : ad476 = ad478 := (by injection e478); replace p478 := eq_true p478; replace q478 := eq_true q478))
      go_roundg k1
      case measure => have := HK1.out; omega
      case rel => exact ⟨(x5_1), (wrap64 (x6_1 + 1)), eqs, eqs, H', ⟨by have := HK1.out; omega⟩, ⟨by (with_reducible repeat (first | apply Kd.R_alloc | apply Kd.R_drewN | apply Kd.R_drew)); exact HO_4.out⟩, ⟨blw⟩⟩
    ·replace c7 := Bool.eq_false_iff.mpr c7
     subst c7
     rw [if_neg nft] at H
     simp only [Option.some.injEq, Prod.mk.injEq] at H
     obtain ⟨rfl, rfl⟩ := H
     obtain ⟨Ao11, co11, eo11⟩ := Kd.R_slice HO_4.out
     subst eo11
     have p476 : 0 ≤ (x6_1 : Int) := od_
     have q476 : x6_1 < (t472.length : Int) := od_
     obtain ⟨ad476, e476, hx476_0⟩ := Kd.at_string (Kd.R_reads' HO_4.out).2.2 x6_1 p476 q476
     cases e476
     replace p476 := eq_true p476
     replace q476 := eq_true q476
     go_wp2_with (first | ((with_reducible refine gc 122 rfl ?_); refine cl_ (some 22) Tryz.func122 (bulletinref13_label.calls k1 (rdOf ByteArray.empty t472 x6_1) false _ A6.out) ?_; rintro w' ⟨nd, rfl⟩))
     go_ret2
     exact ⟨by first | rfl | (simp [errW_none, errW_some] <;> rfl) | (simp [*, errW_none, errW_some] <;> rfl), blw⟩
   ·rw [if_neg c4] at H
    have c4b0 := decide_eq_false c4
    clear c4
    by_cases c12 : x5_1 = true
    ·subst c12
     rw [if_pos rfl] at H
     simp only [Option.some.injEq, Prod.mk.injEq] at H
     obtain ⟨rfl, rfl⟩ := H
     obtain ⟨Ao13, co13, eo13⟩ := Kd.R_slice HO_4.out
     subst eo13
     go_wp2
     go_ret2
     exact ⟨by first | rfl | (simp [errW_none, errW_some] <;> rfl) | (simp [*, errW_none, errW_some] <;> rfl), blw⟩
    ·replace c12 := Bool.eq_false_iff.mpr c12
     subst c12
     rw [if_neg nft] at H
     replace H := Option.bind_eq_some_iff.mp H
     obtain ⟨t475, A140, H⟩ := H
     try dsimp only at H
     have A14 := Aside0.mk A140
     clear A140
     simp only [Option.some.injEq, Prod.mk.injEq] at H
     obtain ⟨rfl, rfl⟩ := H
     obtain ⟨Ao15, co15, eo15⟩ := Kd.R_slice HO_4.out
     subst eo15
     go_wp2_with (first | ((with_reducible refine gc 65 rfl ?_); refine cl_ (some 32) Tryz.func65 (bulletinref06_Fold.calls k1 a0 t475 _ A14.out) ?_; rintro w16 hb; replace HO_4 := Aside0.mk (Kd.R_below (by (with_reducible repeat (first | apply Kd.R_alloc | apply Kd.R_drewN | apply Kd.R_drew)); exact HO_4.out) hb); replace HB := Aside0.mk (below_step blw hb); (try clear hb)))
     go_ret2
     exact ⟨by first | rfl | (simp [errW_none, errW_some] <;> rfl) | (simp [*, errW_none, errW_some] <;> rfl), blw⟩

/-! ### bulletinref13_Why: function 64 -/
mutual
def bulletinref13_Why.j0 : Nat → Int → Bool → ByteArray → ByteArray → Option (Int)
  | 0, _, _, _, _ => none
  | k + 1, x4, x18, x480000, x480001 => if x18 = true then (some 130) else (bulletinref13_Why.l0 k x4 0 x480000 x480001)
def bulletinref13_Why.l0 : Nat → Int → Int → ByteArray → ByteArray → Option (Int)
  | 0, _, _, _, _ => none
  | k + 1, x4, x5, x480000, x480001 => if x5 < (x480000.size : Int) then (if 0 ≤ x5 then (if (bt x480000 x5) < 32 then (some 130) else (if (bt x480000 x5) > 126 then (some 130) else (bulletinref13_Why.l0 k x4 (wrap64 (x5 + 1)) x480000 x480001))) else (none)) else (if x4 = 0 then (if (x480000.size : Int) > 64 then (some 2) else ((bulletinref13_Text.f k x480000 x480001).bind fun t482 => (if (t482.size : Int) > 254 then (some 2) else (some 0)))) else (some 2))
end
def bulletinref13_Why.f (k : Nat) (a0_0 : ByteArray) (a0_1 : ByteArray) : Option (Int) := (bulletinref13_Domain.f k a0_1).bind fun bt480 => (if bt480.2 = 130 then (bulletinref13_Why.j0 k bt480.2 true a0_0 a0_1) else (bulletinref13_Why.j0 k bt480.2 (a0_0.toList == ([] : List UInt8)) a0_0 a0_1))
theorem bulletinref13_Why.mono_l : ∀ k, (∀ y0 y1 y2 y3, LeO (bulletinref13_Why.j0 k y0 y1 y2 y3) (bulletinref13_Why.j0 (k + 1) y0 y1 y2 y3)) ∧ (∀ y0 y1 y2 y3, LeO (bulletinref13_Why.l0 k y0 y1 y2 y3) (bulletinref13_Why.l0 (k + 1) y0 y1 y2 y3))
  | 0 => ⟨fun _ _ _ _ r h => by simp [bulletinref13_Why.j0] at h, fun _ _ _ _ r h => by simp [bulletinref13_Why.l0] at h⟩
  | k + 1 => by
    obtain ⟨ih0, ih1⟩ := bulletinref13_Why.mono_l k
    refine ⟨?_, ?_⟩
    · intro y0 y1 y2 y3
      unfold bulletinref13_Why.j0
      repeat' first | (with_reducible first | exact ih0 _ _ _ _ | exact ih1 _ _ _ _ | exact bulletinref13_Domain.mono _ _ | exact bulletinref13_Text.mono _ _ _ | exact LeO.refl _ | exact LeO.none _ | refine LeO.ite ?_ ?_ | refine LeO.bind ?_ (fun _ => ?_)) | exact ih0 _ _ _ _ | exact ih1 _ _ _ _ | exact bulletinref13_Domain.mono _ _ | exact bulletinref13_Text.mono _ _ _ | exact LeO.none _ | refine LeO.ite ?_ ?_ | refine LeO.bind ?_ (fun _ => ?_)
    · intro y0 y1 y2 y3
      unfold bulletinref13_Why.l0
      repeat' first | (with_reducible first | exact ih0 _ _ _ _ | exact ih1 _ _ _ _ | exact bulletinref13_Domain.mono _ _ | exact bulletinref13_Text.mono _ _ _ | exact LeO.refl _ | exact LeO.none _ | refine LeO.ite ?_ ?_ | refine LeO.bind ?_ (fun _ => ?_)) | exact ih0 _ _ _ _ | exact ih1 _ _ _ _ | exact bulletinref13_Domain.mono _ _ | exact bulletinref13_Text.mono _ _ _ | exact LeO.none _ | refine LeO.ite ?_ ?_ | refine LeO.bind ?_ (fun _ => ?_)
theorem bulletinref13_Why.mono : ∀ a0 a1 k, LeO (bulletinref13_Why.f k a0 a1) (bulletinref13_Why.f (k + 1) a0 a1) := by
  intro a0 a1 k
  obtain ⟨ih0, ih1⟩ := bulletinref13_Why.mono_l k
  unfold bulletinref13_Why.f
  repeat' first | (with_reducible first | exact ih0 _ _ _ _ | exact ih1 _ _ _ _ | exact bulletinref13_Domain.mono _ _ | exact bulletinref13_Text.mono _ _ _ | exact LeO.refl _ | exact LeO.none _ | refine LeO.ite ?_ ?_ | refine LeO.bind ?_ (fun _ => ?_)) | exact ih0 _ _ _ _ | exact ih1 _ _ _ _ | exact bulletinref13_Domain.mono _ _ | exact bulletinref13_Text.mono _ _ _ | exact LeO.none _ | refine LeO.ite ?_ ?_ | refine LeO.bind ?_ (fun _ => ?_)
set_option maxHeartbeats 8000000 in
set_option maxRecDepth 100000 in
theorem bulletinref13_Why.calls (k : Nat) (a0_0 : ByteArray) (a0_1 : ByteArray) (r : Int) (w : World) (h : bulletinref13_Why.f k a0_0 a0_1 = some r) :
    Calls Tryz.prog 64 #[.agg #[.string a0_0, .string a0_1]] w fun e w' => e = .returned (.int .i64 r) ∧ Below w.heap.size w w' := by
 have hu26 := Tryz.underlying26
 have HB := Aside0.mk (Below.refl w.heap.size w)
 unfold bulletinref13_Why.f at h
 have H := h
 clear h
 replace H := Option.bind_eq_some_iff.mp H
 obtain ⟨⟨t480, t481⟩, A20, H⟩ := H
 try dsimp only at H
 have A2 := Aside0.mk A20
 clear A20
 have HC3 := Aside0.mk H
 clear H
 go_enter Tryz.func64, Tryz.ntmps64
 go_upto_region 2 with (first | ((with_reducible refine gate_dst (N := 1) rfl ?_); (try (refine gate_guard (by rfl) ?_; dsimp only)); refine box_event ?hg (N := 1) ?hd (cs := #[.string a0_0, .string a0_1]) (t := 26) ?hr ?_; (case hd => rfl); (case hg => rfl); (case hr => first | (go_simp; done) | (go_simp; rfl)); intro gb479 hg w4 hbox hb; have BK479 := Aside0.mk (hbox); have GW479 : Aside0 (w.heap.size ≤ gb479) := gw_ hg; have GE479 : Aside0 (w.heap.size ≤ gb479) := gw_ hg; replace HB := Aside0.mk (below_step blw hb); clear hb hbox hg; have hcz5_0 : w4.cell? ⟨gb479, 0, none⟩ = some (.string a0_0) := bk_ BK479; have hcz5_1 : w4.cell? ⟨gb479, 1, none⟩ = some (.string a0_1) := bk_ BK479; have hfz5_0 := blk_frozen BK479.out 0; have hfz5_1 := blk_frozen BK479.out 1) | ((with_reducible refine gc 96 rfl ?_); refine cl_ (some 9) Tryz.func96 (bulletinref13_Domain.calls k a0_1 t480 t481 _ A2.out) ?_; rintro w6 hb; replace BK479 := Aside0.mk (blk_below (g := gb479) (o := .cells #[.string a0_0, .string a0_1] 26 (0, 0)) (bkw BK479) hb); replace HB := Aside0.mk (below_step blw hb); (try clear hb)))
 (try simp only [Act.put, List.setIfInBounds_toArray, List.set_cons_zero, List.set_cons_succ])
 go_cut [18] (fun v18 wc => ∃ (kq : Nat) (x18_2 : Bool), v18 = .bool x18_2 ∧ Aside0 (bulletinref13_Why.j0 kq t481 x18_2 a0_0 a0_1 = some r) ∧ Aside0 (kq ≤ k) ∧ Aside0 (wc.heap[gb479]? = some (.cells #[.string a0_0, .string a0_1] 26 (0, 0))) ∧ Aside0 (Below w.heap.size w wc))
 case first =>
  have H := HC3.out
  clear HC3
  by_cases c7 : t481 = 130
  ·rw [if_pos c7] at H
   have c7b0 := beq_iff_eq.mpr c7
   have c7b1 := bne_eq_false_iff_eq.mpr c7
   clear c7
   (first | rw [c7b0] | (simp only [i64_w, i32_w]; rw [c7b0]) | skip)
   have H' := Aside0.mk H
   clear H
   go_wp2
   go_meet
   case rel => exact ⟨_, (true), eqs, H', omk, ⟨bkw BK479⟩, ⟨blw⟩⟩
  ·rw [if_neg c7] at H
   have c7b0 := beq_eq_false_iff_ne.mpr c7
   have c7b1 := bne_iff_ne.mpr c7
   (first | rw [c7b0] | (simp only [i64_w, i32_w]; rw [c7b0]) | skip)
   have H' := Aside0.mk H
   clear H
   have hcz8_0 : w6.cell? ⟨gb479, 0, none⟩ = some (.string a0_0) := bk_ BK479
   have hcz8_1 : w6.cell? ⟨gb479, 1, none⟩ = some (.string a0_1) := bk_ BK479
   have hfz8_0 := blk_frozen BK479.out 0
   have hfz8_1 := blk_frozen BK479.out 1
   go_wp2
   go_meet
   case rel => exact ⟨_, ((a0_0.toList == ([] : List UInt8))), eqs, H', omk, ⟨bkw BK479⟩, ⟨blw⟩⟩
 case rest =>
  clear HC3
  try clear p2
  try clear c6
  try clear c7
  try clear c7b0
  try clear c7b1
  try clear hcz5_0 hcz5_1
  try clear hcz8_0 hcz8_1
  try clear hfz5_0 hfz5_1
  try clear hfz8_0 hfz8_1
  obtain ⟨kq, x18_2, rfl, HA, HJ2, BK479, HB⟩ := hcut
  cases kq with
  | zero => exact absurd HA.out (by simp [bulletinref13_Why.j0])
  | succ kj2 =>
   have H := HA.out
   clear HA
   simp only [bulletinref13_Why.j0] at H
   by_cases c9 : x18_2 = true
   ·subst c9
    rw [if_pos rfl] at H
    obtain rfl := Option.some.inj H
    go_wp2
    go_ret
    exact ⟨by first | rfl | (simp [errW_none, errW_some] <;> rfl) | (simp [*, errW_none, errW_some] <;> rfl), blw⟩
   ·replace c9 := Bool.eq_false_iff.mpr c9
    subst c9
    rw [if_neg nft] at H
    have H' := Aside0.mk H
    clear H
    go_wp2
    go_loopg [5] kj2 (fun kq v5 w' => ∃ (x5_2 : Int), v5 = .int .i64 x5_2 ∧ Aside0 (bulletinref13_Why.l0 kq t481 x5_2 a0_0 a0_1 = some r) ∧ Aside0 (kq ≤ kj2) ∧ Aside0 (w'.heap[gb479]? = some (.cells #[.string a0_0, .string a0_1] 26 (0, 0))) ∧ Aside0 (Below w.heap.size w w'))
    case atStart => exact ⟨(0), eqs, H', ⟨Nat.le_refl _⟩, ⟨bkw BK479⟩, ⟨blw⟩⟩
    case round =>
     clear H'
     try clear p2
     try clear c6
     try clear c7
     try clear c7b0
     try clear c7b1
     try clear c9
     try clear hcz5_0 hcz5_1
     try clear hcz8_0 hcz8_1
     try clear hfz5_0 hfz5_1
     try clear hfz8_0 hfz8_1
     try clear p2
     obtain ⟨x5_2, rfl, HA, HK2, BK479, HB⟩ := hrel
     cases gk with
     | zero => exact absurd HA.out (by simp [bulletinref13_Why.l0])
     | succ k2 =>
      have H := HA.out
      clear HA
      simp only [bulletinref13_Why.l0] at H
      by_cases c10 : x5_2 < (a0_0.size : Int)
      ·rw [if_pos c10] at H
       have c10b0 := decide_eq_true c10
       clear c10
       obtain ⟨c11, H⟩ := iteS H
       have c11b0 := decide_eq_true c11
       clear c11
       by_cases c13 : (bt a0_0 x5_2) < 32
       ·rw [if_pos c13] at H
        have c13b0 := decide_eq_true c13
        clear c13
        obtain rfl := Option.some.inj H
        have hcz14_0 : wr.cell? ⟨gb479, 0, none⟩ = some (.string a0_0) := bk_ BK479
        have hcz14_1 : wr.cell? ⟨gb479, 1, none⟩ = some (.string a0_1) := bk_ BK479
        have hfz14_0 := blk_frozen BK479.out 0
        have hfz14_1 := blk_frozen BK479.out 1
        have p12 : 0 ≤ (x5_2 : Int) := od_
        have q12 : x5_2 < (a0_0.size : Int) := od_
        have hx12 := bt_at a0_0 x5_2
        replace p12 := eq_true p12
        replace q12 := eq_true q12
        go_wp2
        go_ret
        exact ⟨by first | rfl | (simp [errW_none, errW_some] <;> rfl) | (simp [*, errW_none, errW_some] <;> rfl), blw⟩
       ·rw [if_neg c13] at H
        have c13b0 := decide_eq_false c13
        clear c13
        by_cases c16 : (bt a0_0 x5_2) > 126
        ·rw [if_pos c16] at H
         have c16b0 : decide (126 < (bt a0_0 x5_2)) = true := decide_eq_true c16
         clear c16
         obtain rfl := Option.some.inj H
         have hcz17_0 : wr.cell? ⟨gb479, 0, none⟩ = some (.string a0_0) := bk_ BK479
         have hcz17_1 : wr.cell? ⟨gb479, 1, none⟩ = some (.string a0_1) := bk_ BK479
         have hfz17_0 := blk_frozen BK479.out 0
         have hfz17_1 := blk_frozen BK479.out 1
         have p12 : 0 ≤ (x5_2 : Int) := od_
         have q12 : x5_2 < (a0_0.size : Int) := od_
         have hx12 := bt_at a0_0 x5_2
         replace p12 := eq_true p12
         replace q12 := eq_true q12
         have p15 : 0 ≤ (x5_2 : Int) := od_
         have q15 : x5_2 < (a0_0.size : Int) := od_
         have hx15 := bt_at a0_0 x5_2
         replace p15 := eq_true p15
         replace q15 := eq_true q15
         go_wp2
         go_ret
         exact ⟨by first | rfl | (simp [errW_none, errW_some] <;> rfl) | (simp [*, errW_none, errW_some] <;> rfl), blw⟩
        ·rw [if_neg c16] at H
         have c16b0 : decide (126 < (bt a0_0 x5_2)) = false := decide_eq_false c16
         clear c16
         have H' := Aside0.mk H
         clear H
         have hcz18_0 : wr.cell? ⟨gb479, 0, none⟩ = some (.string a0_0) := bk_ BK479
         have hcz18_1 : wr.cell? ⟨gb479, 1, none⟩ = some (.string a0_1) := bk_ BK479
         have hfz18_0 := blk_frozen BK479.out 0
         have hfz18_1 := blk_frozen BK479.out 1
         have p12 : 0 ≤ (x5_2 : Int) := od_
         have q12 : x5_2 < (a0_0.size : Int) := od_
         have hx12 := bt_at a0_0 x5_2
         replace p12 := eq_true p12
         replace q12 := eq_true q12
         have p15 : 0 ≤ (x5_2 : Int) := od_
         have q15 : x5_2 < (a0_0.size : Int) := od_
         have hx15 := bt_at a0_0 x5_2
         replace p15 := eq_true p15
         replace q15 := eq_true q15
         go_wp2
         go_roundg k2
         case measure => have := HJ2.out; have := HK2.out; omega
         case rel => exact ⟨(wrap64 (x5_2 + 1)), eqs, H', ⟨by have := HJ2.out; have := HK2.out; omega⟩, ⟨bkw BK479⟩, ⟨blw⟩⟩
      ·rw [if_neg c10] at H
       have c10b0 := decide_eq_false c10
       clear c10
       by_cases c19 : t481 = 0
       ·rw [if_pos c19] at H
        have c19b0 := beq_iff_eq.mpr c19
        have c19b1 := bne_eq_false_iff_eq.mpr c19
        clear c19
        by_cases c20 : (a0_0.size : Int) > 64
        ·rw [if_pos c20] at H
         have c20b0 : decide (64 < (a0_0.size : Int)) = true := decide_eq_true c20
         have c20b1 : decide (64 < a0_0.size) = true := decide_eq_true (by omega)
         clear c20
         obtain rfl := Option.some.inj H
         have hcz21_0 : wr.cell? ⟨gb479, 0, none⟩ = some (.string a0_0) := bk_ BK479
         have hcz21_1 : wr.cell? ⟨gb479, 1, none⟩ = some (.string a0_1) := bk_ BK479
         have hfz21_0 := blk_frozen BK479.out 0
         have hfz21_1 := blk_frozen BK479.out 1
         go_wp2
         go_ret
         exact ⟨by first | rfl | (simp [errW_none, errW_some] <;> rfl) | (simp [*, errW_none, errW_some] <;> rfl), blw⟩
        ·rw [if_neg c20] at H
         have c20b0 : decide (64 < (a0_0.size : Int)) = false := decide_eq_false c20
         have c20b1 : decide (64 < a0_0.size) = false := decide_eq_false (by omega)
         clear c20
         replace H := Option.bind_eq_some_iff.mp H
         obtain ⟨t482, A220, H⟩ := H
         try dsimp only at H
         have A22 := Aside0.mk A220
         clear A220
         by_cases c23 : (t482.size : Int) > 254
         ·rw [if_pos c23] at H
          have c23b0 : decide (254 < (t482.size : Int)) = true := decide_eq_true c23
          have c23b1 : decide (254 < t482.size) = true := decide_eq_true (by omega)
          clear c23
          obtain rfl := Option.some.inj H
          have hcz24_0 : wr.cell? ⟨gb479, 0, none⟩ = some (.string a0_0) := bk_ BK479
          have hcz24_1 : wr.cell? ⟨gb479, 1, none⟩ = some (.string a0_1) := bk_ BK479
          have hfz24_0 := blk_frozen BK479.out 0
          have hfz24_1 := blk_frozen BK479.out 1
          go_wp2_with (first | (go_at_call 33; (with_reducible refine (bulletinref13_Text.calls k2 a0_0 a0_1 t482 _ A22.out).mono ?_); rintro e w25 ⟨rfl, hb⟩; replace BK479 := Aside0.mk (blk_below (g := gb479) (o := .cells #[.string a0_0, .string a0_1] 26 (0, 0)) (bkw BK479) hb); replace HB := Aside0.mk (below_step blw hb); (try clear hb)))
          go_ret
          exact ⟨by first | rfl | (simp [errW_none, errW_some] <;> rfl) | (simp [*, errW_none, errW_some] <;> rfl), blw⟩
         ·rw [if_neg c23] at H
          have c23b0 : decide (254 < (t482.size : Int)) = false := decide_eq_false c23
          have c23b1 : decide (254 < t482.size) = false := decide_eq_false (by omega)
          clear c23
          obtain rfl := Option.some.inj H
          have hcz26_0 : wr.cell? ⟨gb479, 0, none⟩ = some (.string a0_0) := bk_ BK479
          have hcz26_1 : wr.cell? ⟨gb479, 1, none⟩ = some (.string a0_1) := bk_ BK479
          have hfz26_0 := blk_frozen BK479.out 0
          have hfz26_1 := blk_frozen BK479.out 1
          go_wp2_with (first | (go_at_call 33; (with_reducible refine (bulletinref13_Text.calls k2 a0_0 a0_1 t482 _ A22.out).mono ?_); rintro e w27 ⟨rfl, hb⟩; replace BK479 := Aside0.mk (blk_below (g := gb479) (o := .cells #[.string a0_0, .string a0_1] 26 (0, 0)) (bkw BK479) hb); replace HB := Aside0.mk (below_step blw hb); (try clear hb)))
          go_ret
          exact ⟨by first | rfl | (simp [errW_none, errW_some] <;> rfl) | (simp [*, errW_none, errW_some] <;> rfl), blw⟩
       ·rw [if_neg c19] at H
        have c19b0 := beq_eq_false_iff_ne.mpr c19
        have c19b1 := bne_iff_ne.mpr c19
        obtain rfl := Option.some.inj H
        have hcz28_0 : wr.cell? ⟨gb479, 0, none⟩ = some (.string a0_0) := bk_ BK479
        have hcz28_1 : wr.cell? ⟨gb479, 1, none⟩ = some (.string a0_1) := bk_ BK479
        have hfz28_0 := blk_frozen BK479.out 0
        have hfz28_1 := blk_frozen BK479.out 1
        go_wp2
        go_ret
        exact ⟨by first | rfl | (simp [errW_none, errW_some] <;> rfl) | (simp [*, errW_none, errW_some] <;> rfl), blw⟩

/-! ### bulletinref13_Right: function 38 -/
def bulletinref13_Right.f (k : Nat) (a0_0 : ByteArray) (a0_1 : ByteArray) : Option (Bool) := (bulletinref13_Why.f k a0_0 a0_1).bind fun t484 => (if t484 = 0 then ((bulletinref06_Fold.f k a0_1).bind fun t485 => (some (t485.toList == a0_1.toList))) else (some false))
theorem bulletinref13_Right.mono : ∀ a0 a1 k, LeO (bulletinref13_Right.f k a0 a1) (bulletinref13_Right.f (k + 1) a0 a1) := by
  intro a0 a1 k
  unfold bulletinref13_Right.f
  repeat' first | (with_reducible first | exact bulletinref06_Fold.mono _ _ | exact bulletinref13_Why.mono _ _ _ | exact LeO.refl _ | exact LeO.none _ | refine LeO.ite ?_ ?_ | refine LeO.bind ?_ (fun _ => ?_)) | exact bulletinref06_Fold.mono _ _ | exact bulletinref13_Why.mono _ _ _ | exact LeO.none _ | refine LeO.ite ?_ ?_ | refine LeO.bind ?_ (fun _ => ?_)
def bulletinref13_Right.T1 : Bool × List (List Nat × List Nat) := (true, [([], []), ([0], [0]), ([1], [1]), ([2, 1], [2]), ([3], [3]), ([4, 3], [3, 4]), ([5, 3, 3], [3, 5]), ([3], [3]), ([7, 3], [3, 7]), ([6, 8, 3], [3, 6, 8]), ([3, 9], [3, 9]), ([10, 6, 0, 1, 2, 3, 4, 5, 6, 7, 8, 9, 10], [10])])
def bulletinref13_Right.B1 : List Nat := [0, 1, 3, 7, 15, 31, 63, 15, 143, 511, 1023, 2047]
theorem bulletinref13_Right.tab1 : rtab .any (opsOf Tryz.f38 1) = bulletinref13_Right.T1 := by kernel_rfl
theorem bulletinref13_Right.bits1 : waitsOk bulletinref13_Right.T1.2 bulletinref13_Right.B1 = true := by kernel_rfl
set_option maxHeartbeats 8000000 in
set_option maxRecDepth 100000 in
theorem bulletinref13_Right.calls (k : Nat) (a0_0 : ByteArray) (a0_1 : ByteArray) (r : Bool) (w : World) (h : bulletinref13_Right.f k a0_0 a0_1 = some r) :
    Calls Tryz.prog 38 #[.agg #[.string a0_0, .string a0_1]] w fun e w' => e = .returned (.bool r) ∧ Below w.heap.size w w' := by
 have hu26 := Tryz.underlying26
 have HB := Aside0.mk (Below.refl w.heap.size w)
 unfold bulletinref13_Right.f at h
 have H := h
 clear h
 replace H := Option.bind_eq_some_iff.mp H
 obtain ⟨t484, A20, H⟩ := H
 try dsimp only at H
 have A2 := Aside0.mk A20
 clear A20
 by_cases c3 : t484 = 0
 ·rw [if_pos c3] at H
  have c3b0 := beq_iff_eq.mpr c3
  have c3b1 := bne_eq_false_iff_eq.mpr c3
  clear c3
  replace H := Option.bind_eq_some_iff.mp H
  obtain ⟨t485, A40, H⟩ := H
  try dsimp only at H
  have A4 := Aside0.mk A40
  clear A40
  obtain rfl := Option.some.inj H
  go_enter Tryz.func38, Tryz.ntmps38
  try go_wp2_with (first | ((with_reducible refine gate_dst (N := 1) rfl ?_); refine box_event ?hg (N := 1) ?hd (cs := #[.string a0_0, .string a0_1]) (t := 26) ?hr ?_; (case hd => rfl); (case hg => rfl); (case hr => first | (go_simp; done) | (go_simp; rfl)); intro gb483 hg w5 hbox hb; have BK483 := Aside0.mk (hbox); have GW483 : Aside0 (w.heap.size ≤ gb483) := gw_ hg; have GE483 : Aside0 (w.heap.size ≤ gb483) := gw_ hg; replace HB := Aside0.mk (below_step blw hb); clear hb hbox hg))
  replace BK483 := Aside0.mk (blk_drew BK483.out)
  replace HB := Aside0.mk (below_drew1 HB.out)
  refine start_ (n := 12) (S := fun w' => w'.cell? ⟨gb483, 0, none⟩ = some (.string a0_0) ∧ w'.cell? ⟨gb483, 1, none⟩ = some (.string a0_1)) (ds := []) (ba 12 0) (by kernel_rfl) rfl rfl ⟨bk_ BK483, bk_ BK483⟩ (fun hHeld => ?_); refine with_tabW bulletinref13_Right.tab1 bulletinref13_Right.bits1 (fun HT_ HW_ => ?_)
  generalize w5.drew = w6 at BK483 HB hHeld ⊢
  refine tk_ 0 3 1 hHeld ?_
  refine one1 1 (some 4) 3 (fun K hK => ?_)
  refine go1 Tryz.func64 #[.agg #[.string a0_0, .string a0_1]] ?_
  with_reducible refine (bulletinref13_Why.calls k a0_0 a0_1 t484 _ A2.out).mono ?_
  rintro e w7 ⟨rfl, hb⟩
  refine ⟨_, rfl, ?_⟩
  replace BK483 := Aside0.mk (blk_below (g := gb483) (o := .cells #[.string a0_0, .string a0_1] 26 (0, 0)) (bkw BK483) hb)
  replace HB := Aside0.mk (below_step blw hb)
  (try clear hb)
  refine hK.out _ _ ⟨bk_ BK483, bk_ BK483⟩ (fun hHeld => ?_)
  clear hK K
  refine nm_ (some 4) ?_
  refine pu_ 2 5 7 ?_
  refine pu_ 3 6 15 ?_
  refine pu_ 4 7 31 ?_
  refine pu_ 7 10 159 ?_
  refine tk_ 5 8 191 hHeld ?_
  refine tk_ 8 11 447 hHeld ?_
  refine one1 6 (some 9) 511 (fun K hK => ?_)
  refine go1 Tryz.func65 #[.string a0_1] ?_
  with_reducible refine (bulletinref06_Fold.calls k a0_1 t485 _ A4.out).mono ?_
  rintro e w8 ⟨rfl, hb⟩
  refine ⟨_, rfl, ?_⟩
  replace BK483 := Aside0.mk (blk_below (g := gb483) (o := .cells #[.string a0_0, .string a0_1] 26 (0, 0)) (bkw BK483) hb)
  replace HB := Aside0.mk (below_step blw hb)
  (try clear hb)
  refine hK.out _ _ ⟨bk_ BK483, bk_ BK483⟩ (fun hHeld => ?_)
  clear hK K
  refine nm_ (some 9) ?_
  refine pu_ 9 12 1023 ?_
  refine pu_ 10 13 2047 ?_
  refine pu_ 11 2 4095 ?_
  refine done_ (done_of HT_.out (by kernel_rfl)) ?_
  try go_wp2
  go_ret
  exact ⟨by first | rfl | (simp [errW_none, errW_some] <;> rfl) | (simp [*, errW_none, errW_some] <;> rfl), blw⟩
 ·rw [if_neg c3] at H
  have c3b0 := beq_eq_false_iff_ne.mpr c3
  have c3b1 := bne_iff_ne.mpr c3
  obtain rfl := Option.some.inj H
  go_enter Tryz.func38, Tryz.ntmps38
  try go_wp2_with (first | ((with_reducible refine gate_dst (N := 1) rfl ?_); refine box_event ?hg (N := 1) ?hd (cs := #[.string a0_0, .string a0_1]) (t := 26) ?hr ?_; (case hd => rfl); (case hg => rfl); (case hr => first | (go_simp; done) | (go_simp; rfl)); intro gb483 hg w9 hbox hb; have BK483 := Aside0.mk (hbox); have GW483 : Aside0 (w.heap.size ≤ gb483) := gw_ hg; have GE483 : Aside0 (w.heap.size ≤ gb483) := gw_ hg; replace HB := Aside0.mk (below_step blw hb); clear hb hbox hg))
  replace BK483 := Aside0.mk (blk_drew BK483.out)
  replace HB := Aside0.mk (below_drew1 HB.out)
  refine start_ (n := 12) (S := fun w' => w'.cell? ⟨gb483, 0, none⟩ = some (.string a0_0) ∧ w'.cell? ⟨gb483, 1, none⟩ = some (.string a0_1)) (ds := []) (ba 12 0) (by kernel_rfl) rfl rfl ⟨bk_ BK483, bk_ BK483⟩ (fun hHeld => ?_); refine with_tabW bulletinref13_Right.tab1 bulletinref13_Right.bits1 (fun HT_ HW_ => ?_)
  generalize w9.drew = w10 at BK483 HB hHeld ⊢
  refine tk_ 0 3 1 hHeld ?_
  refine one1 1 (some 4) 3 (fun K hK => ?_)
  refine go1 Tryz.func64 #[.agg #[.string a0_0, .string a0_1]] ?_
  with_reducible refine (bulletinref13_Why.calls k a0_0 a0_1 t484 _ A2.out).mono ?_
  rintro e w11 ⟨rfl, hb⟩
  refine ⟨_, rfl, ?_⟩
  replace BK483 := Aside0.mk (blk_below (g := gb483) (o := .cells #[.string a0_0, .string a0_1] 26 (0, 0)) (bkw BK483) hb)
  replace HB := Aside0.mk (below_step blw hb)
  (try clear hb)
  refine hK.out _ _ ⟨bk_ BK483, bk_ BK483⟩ (fun hHeld => ?_)
  clear hK K
  refine nm_ (some 4) ?_
  refine pu_ 2 5 7 ?_
  refine pu_ 3 6 15 ?_
  refine pu0 4 7 31 ?_
  refine pu0 5 8 63 ?_
  refine pu0 6 9 127 ?_
  refine pu0 7 10 255 ?_
  refine pu0 8 11 511 ?_
  refine pu0 9 12 1023 ?_
  refine pu_ 10 13 2047 ?_
  refine pu_ 11 2 4095 ?_
  refine done_ (done_of HT_.out (by kernel_rfl)) ?_
  try go_wp2
  go_ret
  exact ⟨by first | rfl | (simp [errW_none, errW_some] <;> rfl) | (simp [*, errW_none, errW_some] <;> rfl), blw⟩

/-! ### bulletinref23_Right: function 19 -/
def bulletinref23_Right.f (k : Nat) (a0_0 : ByteArray) (a0_1 : ByteArray) (a0_2 : Int) (a0_3 : ByteArray) : Option (Bool) := (bulletinref13_Right.f k a0_0 a0_1).bind fun t487 => (if t487 = true then ((bulletinref22_Moment.f a0_2).bind fun t488 => (if t488 = true then (if a0_3.toList = ([] : List UInt8) then (some true) else ((bulletinref23_ends.f a0_3).bind fun t489 => (some t489))) else (some false))) else (some false))
theorem bulletinref23_Right.mono : ∀ a0 a1 a2 a3 k, LeO (bulletinref23_Right.f k a0 a1 a2 a3) (bulletinref23_Right.f (k + 1) a0 a1 a2 a3) := by
  intro a0 a1 a2 a3 k
  unfold bulletinref23_Right.f
  repeat' first | (with_reducible first | exact bulletinref13_Right.mono _ _ _ | exact LeO.refl _ | exact LeO.none _ | refine LeO.ite ?_ ?_ | refine LeO.bind ?_ (fun _ => ?_)) | exact bulletinref13_Right.mono _ _ _ | exact LeO.none _ | refine LeO.ite ?_ ?_ | refine LeO.bind ?_ (fun _ => ?_)
set_option maxHeartbeats 8000000 in
set_option maxRecDepth 100000 in
theorem bulletinref23_Right.calls (k : Nat) (a0_0 : ByteArray) (a0_1 : ByteArray) (a0_2 : Int) (a0_3 : ByteArray) (r : Bool) (w : World) (h : bulletinref23_Right.f k a0_0 a0_1 a0_2 a0_3 = some r) :
    Calls Tryz.prog 19 #[.agg #[.string a0_0, .string a0_1, .int .i64 a0_2, .string a0_3]] w fun e w' => e = .returned (.bool r) ∧ Below w.heap.size w w' := by
 have hu28 := Tryz.underlying28
 have hu26 := Tryz.underlying26
 have HB := Aside0.mk (Below.refl w.heap.size w)
 unfold bulletinref23_Right.f at h
 have H := h
 clear h
 replace H := Option.bind_eq_some_iff.mp H
 obtain ⟨t487, A20, H⟩ := H
 try dsimp only at H
 have A2 := Aside0.mk A20
 clear A20
 by_cases c3 : t487 = true
 ·subst c3
  rw [if_pos rfl] at H
  replace H := Option.bind_eq_some_iff.mp H
  obtain ⟨t488, A40, H⟩ := H
  try dsimp only at H
  have A4 := Aside0.mk A40
  clear A40
  by_cases c5 : t488 = true
  ·subst c5
   rw [if_pos rfl] at H
   by_cases c6 : a0_3.toList = ([] : List UInt8)
   ·rw [if_pos c6] at H
    have c6b0 := beq_iff_eq.mpr c6
    have c6b1 := bne_eq_false_iff_eq.mpr c6
    clear c6
    obtain rfl := Option.some.inj H
    go_enter Tryz.func19, Tryz.ntmps19
    go_wp2_with (first | ((with_reducible refine gate_dst (N := 1) rfl ?_); refine box_event ?hg (N := 1) ?hd (cs := #[.string a0_0, .string a0_1, .int .i64 a0_2, .string a0_3]) (t := 28) ?hr ?_; (case hd => rfl); (case hg => rfl); (case hr => first | (go_simp; done) | (go_simp; rfl)); intro gb486 hg w7 hbox hb; have BK486 := Aside0.mk (hbox); have GW486 : Aside0 (w.heap.size ≤ gb486) := gw_ hg; have GE486 : Aside0 (w.heap.size ≤ gb486) := gw_ hg; replace HB := Aside0.mk (below_step blw hb); clear hb hbox hg; have hcz8_0 : w7.cell? ⟨gb486, 0, none⟩ = some (.string a0_0) := bk_ BK486; have hcz8_1 : w7.cell? ⟨gb486, 1, none⟩ = some (.string a0_1) := bk_ BK486; have hcz8_2 : w7.cell? ⟨gb486, 2, none⟩ = some (.int .i64 a0_2) := bk_ BK486; have hcz8_3 : w7.cell? ⟨gb486, 3, none⟩ = some (.string a0_3) := bk_ BK486; have hfz8_0 := blk_frozen BK486.out 0; have hfz8_1 := blk_frozen BK486.out 1; have hfz8_2 := blk_frozen BK486.out 2; have hfz8_3 := blk_frozen BK486.out 3) | ((with_reducible refine gc 38 rfl ?_); refine cl_ (some 5) Tryz.func38 (bulletinref13_Right.calls k a0_0 a0_1 true _ A2.out) ?_; rintro w9 hb; replace BK486 := Aside0.mk (blk_below (g := gb486) (o := .cells #[.string a0_0, .string a0_1, .int .i64 a0_2, .string a0_3] 28 (0, 0)) (bkw BK486) hb); replace HB := Aside0.mk (below_step blw hb); (try clear hb); have hcz10_0 : w9.cell? ⟨gb486, 0, none⟩ = some (.string a0_0) := bk_ BK486; have hcz10_1 : w9.cell? ⟨gb486, 1, none⟩ = some (.string a0_1) := bk_ BK486; have hcz10_2 : w9.cell? ⟨gb486, 2, none⟩ = some (.int .i64 a0_2) := bk_ BK486; have hcz10_3 : w9.cell? ⟨gb486, 3, none⟩ = some (.string a0_3) := bk_ BK486; have hfz10_0 := blk_frozen BK486.out 0; have hfz10_1 := blk_frozen BK486.out 1; have hfz10_2 := blk_frozen BK486.out 2; have hfz10_3 := blk_frozen BK486.out 3) | (go_at_call 39; (with_reducible refine (bulletinref22_Moment.calls a0_2 true _ A4.out).mono ?_); rintro e w' ⟨rfl, ⟨nd, rfl⟩⟩))
    go_ret
    exact ⟨by first | rfl | (simp [errW_none, errW_some] <;> rfl) | (simp [*, errW_none, errW_some] <;> rfl), blw⟩
   ·rw [if_neg c6] at H
    have c6b0 := beq_eq_false_iff_ne.mpr c6
    have c6b1 := bne_iff_ne.mpr c6
    replace H := Option.bind_eq_some_iff.mp H
    obtain ⟨t489, A110, H⟩ := H
    try dsimp only at H
    have A11 := Aside0.mk A110
    clear A110
    obtain rfl := Option.some.inj H
    go_enter Tryz.func19, Tryz.ntmps19
    go_wp2_with (first | ((with_reducible refine gate_dst (N := 1) rfl ?_); refine box_event ?hg (N := 1) ?hd (cs := #[.string a0_0, .string a0_1, .int .i64 a0_2, .string a0_3]) (t := 28) ?hr ?_; (case hd => rfl); (case hg => rfl); (case hr => first | (go_simp; done) | (go_simp; rfl)); intro gb486 hg w12 hbox hb; have BK486 := Aside0.mk (hbox); have GW486 : Aside0 (w.heap.size ≤ gb486) := gw_ hg; have GE486 : Aside0 (w.heap.size ≤ gb486) := gw_ hg; replace HB := Aside0.mk (below_step blw hb); clear hb hbox hg; have hcz13_0 : w12.cell? ⟨gb486, 0, none⟩ = some (.string a0_0) := bk_ BK486; have hcz13_1 : w12.cell? ⟨gb486, 1, none⟩ = some (.string a0_1) := bk_ BK486; have hcz13_2 : w12.cell? ⟨gb486, 2, none⟩ = some (.int .i64 a0_2) := bk_ BK486; have hcz13_3 : w12.cell? ⟨gb486, 3, none⟩ = some (.string a0_3) := bk_ BK486; have hfz13_0 := blk_frozen BK486.out 0; have hfz13_1 := blk_frozen BK486.out 1; have hfz13_2 := blk_frozen BK486.out 2; have hfz13_3 := blk_frozen BK486.out 3) | ((with_reducible refine gc 38 rfl ?_); refine cl_ (some 5) Tryz.func38 (bulletinref13_Right.calls k a0_0 a0_1 true _ A2.out) ?_; rintro w14 hb; replace BK486 := Aside0.mk (blk_below (g := gb486) (o := .cells #[.string a0_0, .string a0_1, .int .i64 a0_2, .string a0_3] 28 (0, 0)) (bkw BK486) hb); replace HB := Aside0.mk (below_step blw hb); (try clear hb); have hcz15_0 : w14.cell? ⟨gb486, 0, none⟩ = some (.string a0_0) := bk_ BK486; have hcz15_1 : w14.cell? ⟨gb486, 1, none⟩ = some (.string a0_1) := bk_ BK486; have hcz15_2 : w14.cell? ⟨gb486, 2, none⟩ = some (.int .i64 a0_2) := bk_ BK486; have hcz15_3 : w14.cell? ⟨gb486, 3, none⟩ = some (.string a0_3) := bk_ BK486; have hfz15_0 := blk_frozen BK486.out 0; have hfz15_1 := blk_frozen BK486.out 1; have hfz15_2 := blk_frozen BK486.out 2; have hfz15_3 := blk_frozen BK486.out 3) | (go_at_call 39; (with_reducible refine (bulletinref22_Moment.calls a0_2 true _ A4.out).mono ?_); rintro e w' ⟨rfl, ⟨nd, rfl⟩⟩) | (go_at_call 35; (with_reducible refine (bulletinref23_ends.calls a0_3 t489 _ A11.out).mono ?_); rintro e w' ⟨rfl, ⟨nd, rfl⟩⟩))
    go_ret
    exact ⟨by first | rfl | (simp [errW_none, errW_some] <;> rfl) | (simp [*, errW_none, errW_some] <;> rfl), blw⟩
  ·replace c5 := Bool.eq_false_iff.mpr c5
   subst c5
   rw [if_neg nft] at H
   obtain rfl := Option.some.inj H
   go_enter Tryz.func19, Tryz.ntmps19
   go_wp2_with (first | ((with_reducible refine gate_dst (N := 1) rfl ?_); refine box_event ?hg (N := 1) ?hd (cs := #[.string a0_0, .string a0_1, .int .i64 a0_2, .string a0_3]) (t := 28) ?hr ?_; (case hd => rfl); (case hg => rfl); (case hr => first | (go_simp; done) | (go_simp; rfl)); intro gb486 hg w16 hbox hb; have BK486 := Aside0.mk (hbox); have GW486 : Aside0 (w.heap.size ≤ gb486) := gw_ hg; have GE486 : Aside0 (w.heap.size ≤ gb486) := gw_ hg; replace HB := Aside0.mk (below_step blw hb); clear hb hbox hg; have hcz17_0 : w16.cell? ⟨gb486, 0, none⟩ = some (.string a0_0) := bk_ BK486; have hcz17_1 : w16.cell? ⟨gb486, 1, none⟩ = some (.string a0_1) := bk_ BK486; have hcz17_2 : w16.cell? ⟨gb486, 2, none⟩ = some (.int .i64 a0_2) := bk_ BK486; have hcz17_3 : w16.cell? ⟨gb486, 3, none⟩ = some (.string a0_3) := bk_ BK486; have hfz17_0 := blk_frozen BK486.out 0; have hfz17_1 := blk_frozen BK486.out 1; have hfz17_2 := blk_frozen BK486.out 2; have hfz17_3 := blk_frozen BK486.out 3) | ((with_reducible refine gc 38 rfl ?_); refine cl_ (some 5) Tryz.func38 (bulletinref13_Right.calls k a0_0 a0_1 true _ A2.out) ?_; rintro w18 hb; replace BK486 := Aside0.mk (blk_below (g := gb486) (o := .cells #[.string a0_0, .string a0_1, .int .i64 a0_2, .string a0_3] 28 (0, 0)) (bkw BK486) hb); replace HB := Aside0.mk (below_step blw hb); (try clear hb); have hcz19_0 : w18.cell? ⟨gb486, 0, none⟩ = some (.string a0_0) := bk_ BK486; have hcz19_1 : w18.cell? ⟨gb486, 1, none⟩ = some (.string a0_1) := bk_ BK486; have hcz19_2 : w18.cell? ⟨gb486, 2, none⟩ = some (.int .i64 a0_2) := bk_ BK486; have hcz19_3 : w18.cell? ⟨gb486, 3, none⟩ = some (.string a0_3) := bk_ BK486; have hfz19_0 := blk_frozen BK486.out 0; have hfz19_1 := blk_frozen BK486.out 1; have hfz19_2 := blk_frozen BK486.out 2; have hfz19_3 := blk_frozen BK486.out 3) | (go_at_call 39; (with_reducible refine (bulletinref22_Moment.calls a0_2 false _ A4.out).mono ?_); rintro e w' ⟨rfl, ⟨nd, rfl⟩⟩))
   go_ret
   exact ⟨by first | rfl | (simp [errW_none, errW_some] <;> rfl) | (simp [*, errW_none, errW_some] <;> rfl), blw⟩
 ·replace c3 := Bool.eq_false_iff.mpr c3
  subst c3
  rw [if_neg nft] at H
  obtain rfl := Option.some.inj H
  go_enter Tryz.func19, Tryz.ntmps19
  go_wp2_with (first | ((with_reducible refine gate_dst (N := 1) rfl ?_); refine box_event ?hg (N := 1) ?hd (cs := #[.string a0_0, .string a0_1, .int .i64 a0_2, .string a0_3]) (t := 28) ?hr ?_; (case hd => rfl); (case hg => rfl); (case hr => first | (go_simp; done) | (go_simp; rfl)); intro gb486 hg w20 hbox hb; have BK486 := Aside0.mk (hbox); have GW486 : Aside0 (w.heap.size ≤ gb486) := gw_ hg; have GE486 : Aside0 (w.heap.size ≤ gb486) := gw_ hg; replace HB := Aside0.mk (below_step blw hb); clear hb hbox hg; have hcz21_0 : w20.cell? ⟨gb486, 0, none⟩ = some (.string a0_0) := bk_ BK486; have hcz21_1 : w20.cell? ⟨gb486, 1, none⟩ = some (.string a0_1) := bk_ BK486; have hcz21_2 : w20.cell? ⟨gb486, 2, none⟩ = some (.int .i64 a0_2) := bk_ BK486; have hcz21_3 : w20.cell? ⟨gb486, 3, none⟩ = some (.string a0_3) := bk_ BK486; have hfz21_0 := blk_frozen BK486.out 0; have hfz21_1 := blk_frozen BK486.out 1; have hfz21_2 := blk_frozen BK486.out 2; have hfz21_3 := blk_frozen BK486.out 3) | ((with_reducible refine gc 38 rfl ?_); refine cl_ (some 5) Tryz.func38 (bulletinref13_Right.calls k a0_0 a0_1 false _ A2.out) ?_; rintro w22 hb; replace BK486 := Aside0.mk (blk_below (g := gb486) (o := .cells #[.string a0_0, .string a0_1, .int .i64 a0_2, .string a0_3] 28 (0, 0)) (bkw BK486) hb); replace HB := Aside0.mk (below_step blw hb); (try clear hb)))
  go_ret
  exact ⟨by first | rfl | (simp [errW_none, errW_some] <;> rfl) | (simp [*, errW_none, errW_some] <;> rfl), blw⟩

end Go.Proofs.YtcpmoolpbeeedaaGreatDoor.Q
