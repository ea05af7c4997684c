-- Written by a program of this session (wip/myprint) out of the translation, for YtcpmoolpbeeedaaGreatDoor.
import Derived.Test.YtcpmoolpbeeedaaGreatDoorQ0
import Derived.Test.YtcpmoolpbeeedaaGreatDoorQ10
import Derived.Test.YtcpmoolpbeeedaaGreatDoorQ22a
import Derived.Test.YtcpmoolpbeeedaaGreatDoorQ22b
import Derived.Test.YtcpmoolpbeeedaaGreatDoorQ23d
import Derived.Test.YtcpmoolpbeeedaaGreatDoorQ23e
import Derived.Test.YtcpmoolpbeeedaaGreatDoorQ38b
import Derived.Test.YtcpmoolpbeeedaaGreatDoorQ8
namespace Go.Proofs.YtcpmoolpbeeedaaGreatDoor.Q
open Go.RowKit Go.Proofs.YtcpmoolpbeeedaaGreatDoorW.PrintWords Go.Proofs.YtcpmoolpbeeedaaGreatDoorW.PrintLast Go.Proofs.YtcpmoolpbeeedaaGreatDoorW.PrintMore Go.Proofs.YtcpmoolpbeeedaaGreatDoorW.PrintSq
attribute [local go_sem] max2_int min2_int max_two min_two max_three min_three max_four min_four   -- for this text's walks alone
set_option linter.unusedVariables false
set_option linter.unusedSimpArgs false

/-! ### bulletinlaw23_MboxBack: function 6 -/
def bulletinlaw23_MboxBack.l0 : Nat → List (S28) → ByteArray → Int → Int → Option (Bool)
  | 0, _, _, _, _ => none
  | k + 1, x0, x3, x14, x15 => if x15 < x14 then (if 0 ≤ x15 then (if x15 < (x0.length : Int) then ((bulletinlaw23_To.f ((rd_T28 x0 x15).f0.f0) ((rd_T28 x0 x15).f0.f1) ((rd_T28 x0 x15).f1) ((rd_T28 x0 x15).f2)).bind fun bt626 => ((mbox_Right.f k bt626.1 bt626.2.1 bt626.2.2.1 bt626.2.2.2).bind fun t631 => (if t631 = true then ((mbox_Entry.f k bt626.1 bt626.2.1 bt626.2.2.1 bt626.2.2.2).bind fun t632 => (if x3.size + t632.size ≤ 9223372036854775807 then (bulletinlaw23_MboxBack.l0 k x0 (x3 ++ t632) x14 (wrap64 (x15 + 1))) else (none))) else (some true)))) else (none)) else (none)) else ((mbox_Split.f k x3).bind fun bt620 => (if bt620.2 = 0 then ((bulletinlaw23_Same.f k bt620.1 x0).bind fun t624 => (some t624)) else (none)))
def bulletinlaw23_MboxBack.f (k : Nat) (l0 : List (S28)) : Option (Bool) := (bulletinlaw23_works.f k).bind fun t618 => (if t618 = true then ((bulletinlaw23_light.f k l0).bind fun t619 => (if t619 = true then (bulletinlaw23_MboxBack.l0 k l0 (⟨#[]⟩ : ByteArray) (l0.length : Int) 0) else (some true))) else (none))
theorem bulletinlaw23_MboxBack.mono_l : ∀ k, (∀ y0 y1 y2 y3, LeO (bulletinlaw23_MboxBack.l0 k y0 y1 y2 y3) (bulletinlaw23_MboxBack.l0 (k + 1) y0 y1 y2 y3))
  | 0 => fun _ _ _ _ r h => by simp [bulletinlaw23_MboxBack.l0] at h
  | k + 1 => by
    have ih0 := bulletinlaw23_MboxBack.mono_l k
    · intro y0 y1 y2 y3
      unfold bulletinlaw23_MboxBack.l0
      repeat' first | (with_reducible first | exact ih0 _ _ _ _ | exact bulletinlaw23_Same.mono _ _ _ | exact bulletinlaw23_light.mono _ _ | exact bulletinlaw23_works.mono _ | exact mbox_Entry.mono _ _ _ _ _ | exact mbox_Right.mono _ _ _ _ _ | exact mbox_Split.mono _ _ | exact LeO.refl _ | exact LeO.none _ | refine LeO.ite ?_ ?_ | refine LeO.bind ?_ (fun _ => ?_)) | exact ih0 _ _ _ _ | exact bulletinlaw23_Same.mono _ _ _ | exact bulletinlaw23_light.mono _ _ | exact bulletinlaw23_works.mono _ | exact mbox_Entry.mono _ _ _ _ _ | exact mbox_Right.mono _ _ _ _ _ | exact mbox_Split.mono _ _ | exact LeO.none _ | refine LeO.ite ?_ ?_ | refine LeO.bind ?_ (fun _ => ?_)
theorem bulletinlaw23_MboxBack.mono : ∀ a0 k, LeO (bulletinlaw23_MboxBack.f k a0) (bulletinlaw23_MboxBack.f (k + 1) a0) := by
  intro a0 k
  have ih0 := bulletinlaw23_MboxBack.mono_l k
  unfold bulletinlaw23_MboxBack.f
  repeat' first | (with_reducible first | exact ih0 _ _ _ _ | exact bulletinlaw23_Same.mono _ _ _ | exact bulletinlaw23_light.mono _ _ | exact bulletinlaw23_works.mono _ | exact mbox_Entry.mono _ _ _ _ _ | exact mbox_Right.mono _ _ _ _ _ | exact mbox_Split.mono _ _ | exact LeO.refl _ | exact LeO.none _ | refine LeO.ite ?_ ?_ | refine LeO.bind ?_ (fun _ => ?_)) | exact ih0 _ _ _ _ | exact bulletinlaw23_Same.mono _ _ _ | exact bulletinlaw23_light.mono _ _ | exact bulletinlaw23_works.mono _ | exact mbox_Entry.mono _ _ _ _ _ | exact mbox_Right.mono _ _ _ _ _ | exact mbox_Split.mono _ _ | exact LeO.none _ | refine LeO.ite ?_ ?_ | refine LeO.bind ?_ (fun _ => ?_)
set_option maxHeartbeats 8000000 in
set_option maxRecDepth 100000 in
theorem bulletinlaw23_MboxBack.calls (k : Nat) (A0 : Option Addr) (c0 : Nat) (l0 : List (S28)) (r : Bool) (w : World) (hG : Amb w) (hr0 : Kd.C k28 w A0 l0.length l0) (hc0 : l0.length ≤ c0) (h : bulletinlaw23_MboxBack.f k l0 = some r) :
    Calls Tryz.prog 6 #[.slice A0 l0.length c0] w fun e w' => e = .returned (.bool r) ∧ Below w.heap.size w w' := by
 have hu28 := Tryz.underlying28
 have hu34 := Tryz.underlying34
 have HR0 := Aside0.mk hr0
 have HC0 := Aside0.mk hc0
 clear hr0 hc0
 have HB := Aside0.mk (Below.refl w.heap.size w)
 unfold bulletinlaw23_MboxBack.f at h
 have H := h
 clear h
 have HG := Aside0.mk hG
 clear hG
 replace H := Option.bind_eq_some_iff.mp H
 obtain ⟨t618, A20, H⟩ := H
 try dsimp only at H
 have A2 := Aside0.mk A20
 clear A20
 obtain ⟨rfl, H⟩ := iteS H
 replace H := Option.bind_eq_some_iff.mp H
 obtain ⟨t619, A40, H⟩ := H
 try dsimp only at H
 have A4 := Aside0.mk A40
 clear A40
 by_cases c5 : t619 = true
 ·subst c5
  rw [if_pos rfl] at H
  have H' := Aside0.mk H
  clear H
  go_enter Tryz.func6, Tryz.ntmps6
  go_wp2_with (first | ((with_reducible refine gc 9 rfl ?_); refine cl_ (some 8) Tryz.func9 (bulletinlaw23_works.calls k  true _ (Amb.at HG.out blw) A2.out) ?_; rintro w6 hb; replace HB := Aside0.mk (below_step blw hb); (try clear hb)) | ((with_reducible refine gc 14 rfl ?_); refine gl_ (some 11) Tryz.func14 #[.slice A0 l0.length c0] ?_; (with_reducible refine (bulletinlaw23_light.calls k _ _ l0 true _ ?side1 ?side2 A4.out).mono ?_); (case side1 => repeat (first | exact (Kd.C_below HR0.out HB.out) | (with_reducible refine Kd.C_alloc ?_ _) | (with_reducible refine Kd.C_drewN ?_ _) | (with_reducible refine Kd.C_drew ?_))); (case side2 => exact HC0.out); rintro e w' ⟨rfl, ⟨nd, rfl⟩⟩; refine ⟨_, rfl, ?_⟩))
  go_loopg [3, 15] k (fun kq v3 v15 w' => ∃ (x3_1 : ByteArray) (x15_1 : Int), v3 = .string x3_1 ∧ v15 = .int .i64 x15_1 ∧ Aside0 (bulletinlaw23_MboxBack.l0 kq l0 x3_1 (l0.length : Int) x15_1 = some r) ∧ Aside0 (kq ≤ k) ∧ Aside0 (Below w.heap.size w w'))
  case atStart => exact ⟨((⟨#[]⟩ : ByteArray)), (0), eqs, eqs, H', ⟨Nat.le_refl _⟩, ⟨blw⟩⟩
  case round =>
   clear H'
   try clear c1
   try clear p2
   try clear c3
   try clear c5
   try clear c6
   obtain ⟨x3_1, x15_1, rfl, rfl, HA, HK1, HB⟩ := hrel
   cases gk with
   | zero => exact absurd HA.out (by simp [bulletinlaw23_MboxBack.l0])
   | succ k1 =>
    have H := HA.out
    clear HA
    simp only [bulletinlaw23_MboxBack.l0] at H
    by_cases c7 : x15_1 < (l0.length : Int)
    ·rw [if_pos c7] at H
     have c7b0 := decide_eq_true c7
     clear c7
     obtain ⟨c8, H⟩ := iteS H
     have c8b0 := decide_eq_true c8
     clear c8
     obtain ⟨c9, H⟩ := iteS H
     have c9b0 := decide_eq_true c9
     clear c9
     replace H := Option.bind_eq_some_iff.mp H
     obtain ⟨⟨t626, t627, t628, t629⟩, A100, H⟩ := H
     try dsimp only at H
     have A10 := Aside0.mk A100
     clear A100
     replace H := Option.bind_eq_some_iff.mp H
     obtain ⟨t631, A110, H⟩ := H
     try dsimp only at H
     have A11 := Aside0.mk A110
     clear A110
     by_cases c12 : t631 = true
     ·subst c12
      rw [if_pos rfl] at H
      replace H := Option.bind_eq_some_iff.mp H
      obtain ⟨t632, A130, H⟩ := H
      try dsimp only at H
      have A13 := Aside0.mk A130
      clear A130
      obtain ⟨c14, H⟩ := iteS H
      have c14b0 := eq_true c14
      have c14b1 := decide_eq_true c14
      try have c14b2 := eq_false (Nat.not_lt.2 c14)
      have H' := Aside0.mk H
      clear H
      have p625 : 0 ≤ (x15_1 : Int) := od_
      have q625 : x15_1 < (l0.length : Int) := od_
      obtain ⟨ad625, e625, hx625_0, hx625_1, hx625_2, hx625_3⟩ := at_T28 HR0.out x15_1 p625 q625
      cases e625
      replace hx625_0 := (HB.out.cell (World.block_lt_of_cell? w _ hx625_0)).trans hx625_0
      replace hx625_1 := (HB.out.cell (World.block_lt_of_cell? w _ hx625_1)).trans hx625_1
      replace hx625_2 := (HB.out.cell (World.block_lt_of_cell? w _ hx625_2)).trans hx625_2
      replace hx625_3 := (HB.out.cell (World.block_lt_of_cell? w _ hx625_3)).trans hx625_3
      replace p625 := eq_true p625
      replace q625 := eq_true q625
      go_wp2_with (first | ((with_reducible refine gc 16 rfl ?_); refine cl_ (some 22) Tryz.func16 (bulletinlaw23_To.calls ((rd_T28 l0 x15_1).f0.f0) ((rd_T28 l0 x15_1).f0.f1) ((rd_T28 l0 x15_1).f1) ((rd_T28 l0 x15_1).f2) t626 t627 t628 t629 _ A10.out) ?_; rintro w15 hb; replace HB := Aside0.mk (below_step blw hb); (try clear hb)) | ((with_reducible refine gate_dst (N := 5) rfl ?_); refine box_event ?hg (N := 5) ?hd (cs := #[.string (⟨#[]⟩ : ByteArray), .string (⟨#[]⟩ : ByteArray), .int .i64 0, .string (⟨#[]⟩ : ByteArray)]) (t := 34) ?hr ?_; (case hd => rfl); (case hg => rfl); (case hr => first | (go_simp; done) | (go_simp; rfl)); intro gb630 hg w16 hbox hb; have BK630 := Aside0.mk (hbox); have GW630 : Aside0 (w.heap.size ≤ gb630) := gw_ hg; have GE630 : Aside0 (w.heap.size ≤ gb630) := gw_ hg; replace HB := Aside0.mk (below_step blw hb); clear hb hbox hg; have hcz17_0 : w16.cell? ⟨gb630, 0, none⟩ = some (.string (⟨#[]⟩ : ByteArray)) := bk_ BK630; have hcz17_1 : w16.cell? ⟨gb630, 1, none⟩ = some (.string (⟨#[]⟩ : ByteArray)) := bk_ BK630; have hcz17_2 : w16.cell? ⟨gb630, 2, none⟩ = some (.int .i64 0) := bk_ BK630; have hcz17_3 : w16.cell? ⟨gb630, 3, none⟩ = some (.string (⟨#[]⟩ : ByteArray)) := bk_ BK630; have hfz17_0 := blk_frozen BK630.out 0; have hfz17_1 := blk_frozen BK630.out 1; have hfz17_2 := blk_frozen BK630.out 2; have hfz17_3 := blk_frozen BK630.out 3) | ((with_reducible refine gc 18 rfl ?_); refine cl_ (some 24) Tryz.func18 (mbox_Right.calls k1 t626 t627 t628 t629 true _ A11.out) ?_; rintro w18 hb; replace BK630 := Aside0.mk (blk_below (g := gb630) (o := .cells #[.string t626, .string t627, .int .i64 t628, .string t629] 34 (0, 0)) (by (with_reducible repeat (first | refine blk_drewN ?_ _ | refine blk_drew ?_ | refine blk_alloc ?_ _)); refine blk_put (cs := #[.string t626, .string t627, .int .i64 t628, .string (⟨#[]⟩ : ByteArray)]) ?_ 3 _ rfl; (with_reducible repeat (first | refine blk_drewN ?_ _ | refine blk_drew ?_ | refine blk_alloc ?_ _)); refine blk_put (cs := #[.string t626, .string t627, .int .i64 0, .string (⟨#[]⟩ : ByteArray)]) ?_ 2 _ rfl; (with_reducible repeat (first | refine blk_drewN ?_ _ | refine blk_drew ?_ | refine blk_alloc ?_ _)); refine blk_put (cs := #[.string t626, .string (⟨#[]⟩ : ByteArray), .int .i64 0, .string (⟨#[]⟩ : ByteArray)]) ?_ 1 _ rfl; (with_reducible repeat (first | refine blk_drewN ?_ _ | refine blk_drew ?_ | refine blk_alloc ?_ _)); refine blk_put (cs := #[.string (⟨#[]⟩ : ByteArray), .string (⟨#[]⟩ : ByteArray), .int .i64 0, .string (⟨#[]⟩ : ByteArray)]) ?_ 0 _ rfl; (with_reducible repeat (first | refine blk_drewN ?_ _ | refine blk_drew ?_ | refine blk_alloc ?_ _)); exact BK630.out) hb); replace HB := Aside0.mk (below_step blw hb); (try clear hb); have hcz19_0 : w18.cell? ⟨gb630, 0, none⟩ = some (.string t626) := bk_ BK630; have hcz19_1 : w18.cell? ⟨gb630, 1, none⟩ = some (.string t627) := bk_ BK630; have hcz19_2 : w18.cell? ⟨gb630, 2, none⟩ = some (.int .i64 t628) := bk_ BK630; have hcz19_3 : w18.cell? ⟨gb630, 3, none⟩ = some (.string t629) := bk_ BK630; have hfz19_0 := blk_frozen BK630.out 0; have hfz19_1 := blk_frozen BK630.out 1; have hfz19_2 := blk_frozen BK630.out 2; have hfz19_3 := blk_frozen BK630.out 3) | ((with_reducible refine gc 15 rfl ?_); refine cl_ (some 28) Tryz.func15 (mbox_Entry.calls k1 t626 t627 t628 t629 t632 _ (Amb.at HG.out blw) A13.out) ?_; rintro w20 hb; replace BK630 := Aside0.mk (blk_below (g := gb630) (o := .cells #[.string t626, .string t627, .int .i64 t628, .string t629] 34 (0, 0)) (bkw BK630) hb); replace HB := Aside0.mk (below_step blw hb); (try clear hb)))
      go_roundg k1
      case measure => have := HK1.out; omega
      case rel => exact ⟨(x3_1 ++ t632), (wrap64 (x15_1 + 1)), eqs, eqs, H', ⟨by have := HK1.out; omega⟩, ⟨blw⟩⟩
     ·replace c12 := Bool.eq_false_iff.mpr c12
      subst c12
      rw [if_neg nft] at H
      obtain rfl := Option.some.inj H
      have p625 : 0 ≤ (x15_1 : Int) := od_
      have q625 : x15_1 < (l0.length : Int) := od_
      obtain ⟨ad625, e625, hx625_0, hx625_1, hx625_2, hx625_3⟩ := at_T28 HR0.out x15_1 p625 q625
      cases e625
      replace hx625_0 := (HB.out.cell (World.block_lt_of_cell? w _ hx625_0)).trans hx625_0
      replace hx625_1 := (HB.out.cell (World.block_lt_of_cell? w _ hx625_1)).trans hx625_1
      replace hx625_2 := (HB.out.cell (World.block_lt_of_cell? w _ hx625_2)).trans hx625_2
      replace hx625_3 := (HB.out.cell (World.block_lt_of_cell? w _ hx625_3)).trans hx625_3
      replace p625 := eq_true p625
      replace q625 := eq_true q625
      go_wp2_with (first | ((with_reducible refine gc 16 rfl ?_); refine cl_ (some 22) Tryz.func16 (bulletinlaw23_To.calls ((rd_T28 l0 x15_1).f0.f0) ((rd_T28 l0 x15_1).f0.f1) ((rd_T28 l0 x15_1).f1) ((rd_T28 l0 x15_1).f2) t626 t627 t628 t629 _ A10.out) ?_; rintro w21 hb; replace HB := Aside0.mk (below_step blw hb); (try clear hb)) | ((with_reducible refine gate_dst (N := 5) rfl ?_); refine box_event ?hg (N := 5) ?hd (cs := #[.string (⟨#[]⟩ : ByteArray), .string (⟨#[]⟩ : ByteArray), .int .i64 0, .string (⟨#[]⟩ : ByteArray)]) (t := 34) ?hr ?_; (case hd => rfl); (case hg => rfl); (case hr => first | (go_simp; done) | (go_simp; rfl)); intro gb630 hg w22 hbox hb; have BK630 := Aside0.mk (hbox); have GW630 : Aside0 (w.heap.size ≤ gb630) := gw_ hg; have GE630 : Aside0 (w.heap.size ≤ gb630) := gw_ hg; replace HB := Aside0.mk (below_step blw hb); clear hb hbox hg; have hcz23_0 : w22.cell? ⟨gb630, 0, none⟩ = some (.string (⟨#[]⟩ : ByteArray)) := bk_ BK630; have hcz23_1 : w22.cell? ⟨gb630, 1, none⟩ = some (.string (⟨#[]⟩ : ByteArray)) := bk_ BK630; have hcz23_2 : w22.cell? ⟨gb630, 2, none⟩ = some (.int .i64 0) := bk_ BK630; have hcz23_3 : w22.cell? ⟨gb630, 3, none⟩ = some (.string (⟨#[]⟩ : ByteArray)) := bk_ BK630; have hfz23_0 := blk_frozen BK630.out 0; have hfz23_1 := blk_frozen BK630.out 1; have hfz23_2 := blk_frozen BK630.out 2; have hfz23_3 := blk_frozen BK630.out 3) | ((with_reducible refine gc 18 rfl ?_); refine cl_ (some 24) Tryz.func18 (mbox_Right.calls k1 t626 t627 t628 t629 false _ A11.out) ?_; rintro w24 hb; replace BK630 := Aside0.mk (blk_below (g := gb630) (o := .cells #[.string t626, .string t627, .int .i64 t628, .string t629] 34 (0, 0)) (by (with_reducible repeat (first | refine blk_drewN ?_ _ | refine blk_drew ?_ | refine blk_alloc ?_ _)); refine blk_put (cs := #[.string t626, .string t627, .int .i64 t628, .string (⟨#[]⟩ : ByteArray)]) ?_ 3 _ rfl; (with_reducible repeat (first | refine blk_drewN ?_ _ | refine blk_drew ?_ | refine blk_alloc ?_ _)); refine blk_put (cs := #[.string t626, .string t627, .int .i64 0, .string (⟨#[]⟩ : ByteArray)]) ?_ 2 _ rfl; (with_reducible repeat (first | refine blk_drewN ?_ _ | refine blk_drew ?_ | refine blk_alloc ?_ _)); refine blk_put (cs := #[.string t626, .string (⟨#[]⟩ : ByteArray), .int .i64 0, .string (⟨#[]⟩ : ByteArray)]) ?_ 1 _ rfl; (with_reducible repeat (first | refine blk_drewN ?_ _ | refine blk_drew ?_ | refine blk_alloc ?_ _)); refine blk_put (cs := #[.string (⟨#[]⟩ : ByteArray), .string (⟨#[]⟩ : ByteArray), .int .i64 0, .string (⟨#[]⟩ : ByteArray)]) ?_ 0 _ rfl; (with_reducible repeat (first | refine blk_drewN ?_ _ | refine blk_drew ?_ | refine blk_alloc ?_ _)); exact BK630.out) hb); replace HB := Aside0.mk (below_step blw hb); (try clear hb)))
      go_ret
      exact ⟨by first | rfl | (simp [errW_none, errW_some] <;> rfl) | (simp [*, errW_none, errW_some] <;> rfl), blw⟩
    ·rw [if_neg c7] at H
     have c7b0 := decide_eq_false c7
     clear c7
     replace H := Option.bind_eq_some_iff.mp H
     obtain ⟨⟨t620, t621⟩, A250, H⟩ := H
     try dsimp only at H
     have A25 := Aside0.mk A250
     clear A250
     obtain ⟨c26, H⟩ := iteS H
     have c26b0 := beq_iff_eq.mpr c26
     have c26b1 := bne_eq_false_iff_eq.mpr c26
     clear c26
     replace H := Option.bind_eq_some_iff.mp H
     obtain ⟨t624, A270, H⟩ := H
     try dsimp only at H
     have A27 := Aside0.mk A270
     clear A270
     obtain rfl := Option.some.inj H
     go_wp2_with (first | ((with_reducible refine gc 20 rfl ?_); refine gl_ (some 33) Tryz.func20 #[.string x3_1] ?_; (with_reducible refine (mbox_Split.calls k1 x3_1 t620 t621 _ ?side1 A25.out).mono ?_); (case side1 => exact Amb.at HG.out blw); rintro e w28 ⟨v622, rfl, ho0, hb⟩; refine ⟨_, rfl, ?_⟩; have HO623 := Aside0.mk (Kd.R_lower ho0 (below_size blw)); replace HB := Aside0.mk (below_step blw hb); (try clear hb); (try clear ho0); obtain ⟨Ao29, co29, eo29⟩ := Kd.R_slice HO623.out; subst eo29) | (go_at_call 22; (with_reducible refine (bulletinlaw23_Same.calls k1 _ _ t620 _ _ l0 t624 _ ?side1 ?side2 ?side3 ?side4 A27.out).mono ?_); (case side1 => repeat (first | exact (Kd.R_reads' HO623.out).2.2 | (with_reducible refine Kd.C_alloc ?_ _) | (with_reducible refine Kd.C_drewN ?_ _) | (with_reducible refine Kd.C_drew ?_))); (case side2 => exact (Kd.R_reads' HO623.out).2.1); (case side3 => repeat (first | exact (Kd.C_below HR0.out HB.out) | (with_reducible refine Kd.C_alloc ?_ _) | (with_reducible refine Kd.C_drewN ?_ _) | (with_reducible refine Kd.C_drew ?_))); (case side4 => exact HC0.out); rintro e w30 ⟨rfl, hb⟩; replace HO623 := Aside0.mk (Kd.R_below (by (with_reducible repeat (first | apply Kd.R_alloc | apply Kd.R_drewN | apply Kd.R_drew)); exact HO623.out) hb); replace HB := Aside0.mk (below_step blw hb); (try clear hb)))
     go_ret
     exact ⟨by first | rfl | (simp [errW_none, errW_some] <;> rfl) | (simp [*, errW_none, errW_some] <;> rfl), blw⟩
 ·replace c5 := Bool.eq_false_iff.mpr c5
  subst c5
  rw [if_neg nft] at H
  obtain rfl := Option.some.inj H
  go_enter Tryz.func6, Tryz.ntmps6
  go_wp2_with (first | ((with_reducible refine gc 9 rfl ?_); refine cl_ (some 8) Tryz.func9 (bulletinlaw23_works.calls k  true _ (Amb.at HG.out blw) A2.out) ?_; rintro w31 hb; replace HB := Aside0.mk (below_step blw hb); (try clear hb)) | ((with_reducible refine gc 14 rfl ?_); refine gl_ (some 11) Tryz.func14 #[.slice A0 l0.length c0] ?_; (with_reducible refine (bulletinlaw23_light.calls k _ _ l0 false _ ?side1 ?side2 A4.out).mono ?_); (case side1 => repeat (first | exact (Kd.C_below HR0.out HB.out) | (with_reducible refine Kd.C_alloc ?_ _) | (with_reducible refine Kd.C_drewN ?_ _) | (with_reducible refine Kd.C_drew ?_))); (case side2 => exact HC0.out); rintro e w' ⟨rfl, ⟨nd, rfl⟩⟩; refine ⟨_, rfl, ?_⟩))
  go_ret
  exact ⟨by first | rfl | (simp [errW_none, errW_some] <;> rfl) | (simp [*, errW_none, errW_some] <;> rfl), blw⟩
end Go.Proofs.YtcpmoolpbeeedaaGreatDoor.Q
