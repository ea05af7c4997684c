-- Written by a program of this session (wip/myprint) out of the translation, for YtcpmoolpbeeedaaGreatDoor.
import Derived.Test.YtcpmoolpbeeedaaGreatDoorQ0
import Derived.Test.YtcpmoolpbeeedaaGreatDoorQ22
import Derived.Test.YtcpmoolpbeeedaaGreatDoorQ23
import Derived.Test.YtcpmoolpbeeedaaGreatDoorQ10
import Derived.Test.YtcpmoolpbeeedaaGreatDoorQ22a
import Derived.Test.YtcpmoolpbeeedaaGreatDoorQ22b
import Derived.Test.YtcpmoolpbeeedaaGreatDoorQ8
namespace Go.Proofs.YtcpmoolpbeeedaaGreatDoor.Q
open Go.RowKit Go.Proofs.YtcpmoolpbeeedaaGreatDoorW.PrintWords Go.Proofs.YtcpmoolpbeeedaaGreatDoorW.PrintLast Go.Proofs.YtcpmoolpbeeedaaGreatDoorW.PrintMore Go.Proofs.YtcpmoolpbeeedaaGreatDoorW.PrintSq
attribute [local go_sem] max2_int min2_int max_two min_two max_three min_three max_four min_four   -- for this text's walks alone
set_option linter.unusedVariables false
set_option linter.unusedSimpArgs false

/-! ### bulletinlaw23_MboxJust: function 7 -/
def bulletinlaw23_MboxJust.l0 : Nat → ByteArray → ByteArray → List (S34) → Int → Int → Option (Bool)
  | 0, _, _, _, _, _ => none
  | k + 1, x0, x5, x23, x24, x25 => if x25 < x24 then (if 0 ≤ x25 then (if x25 < (x23.length : Int) then ((mbox_Right.f k ((rd_T34 x23 x25).f0.f0) ((rd_T34 x23 x25).f0.f1) ((rd_T34 x23 x25).f1) ((rd_T34 x23 x25).f2)).bind fun t640 => (if t640 = true then ((mbox_Entry.f k ((rd_T34 x23 x25).f0.f0) ((rd_T34 x23 x25).f0.f1) ((rd_T34 x23 x25).f1) ((rd_T34 x23 x25).f2)).bind fun t641 => (if x5.size + t641.size ≤ 9223372036854775807 then (bulletinlaw23_MboxJust.l0 k x0 (x5 ++ t641) x23 x24 (wrap64 (x25 + 1))) else (none))) else (none))) else (none)) else (none)) else (some (x5.toList == x0.toList))
def bulletinlaw23_MboxJust.f (k : Nat) (a0 : ByteArray) : Option (Bool) := (bulletinlaw23_works.f k).bind fun t633 => (if t633 = true then (if (a0.size : Int) > 2000 then (some true) else ((mbox_Split.f k a0).bind fun bt634 => (if bt634.2 = 0 then (bulletinlaw23_MboxJust.l0 k a0 (⟨#[]⟩ : ByteArray) bt634.1 (bt634.1.length : Int) 0) else (some ((bt634.1.length : Int) == 0))))) else (none))
theorem bulletinlaw23_MboxJust.mono_l : ∀ k, (∀ y0 y1 y2 y3 y4, LeO (bulletinlaw23_MboxJust.l0 k y0 y1 y2 y3 y4) (bulletinlaw23_MboxJust.l0 (k + 1) y0 y1 y2 y3 y4))
  | 0 => fun _ _ _ _ _ r h => by simp [bulletinlaw23_MboxJust.l0] at h
  | k + 1 => by
    have ih0 := bulletinlaw23_MboxJust.mono_l k
    · intro y0 y1 y2 y3 y4
      unfold bulletinlaw23_MboxJust.l0
      repeat' first | (with_reducible first | exact ih0 _ _ _ _ _ | exact bulletinlaw23_works.mono _ | exact mbox_Entry.mono _ _ _ _ _ | exact mbox_Right.mono _ _ _ _ _ | exact mbox_Split.mono _ _ | exact LeO.refl _ | exact LeO.none _ | refine LeO.ite ?_ ?_ | refine LeO.bind ?_ (fun _ => ?_)) | exact ih0 _ _ _ _ _ | exact bulletinlaw23_works.mono _ | exact mbox_Entry.mono _ _ _ _ _ | exact mbox_Right.mono _ _ _ _ _ | exact mbox_Split.mono _ _ | exact LeO.none _ | refine LeO.ite ?_ ?_ | refine LeO.bind ?_ (fun _ => ?_)
theorem bulletinlaw23_MboxJust.mono : ∀ a0 k, LeO (bulletinlaw23_MboxJust.f k a0) (bulletinlaw23_MboxJust.f (k + 1) a0) := by
  intro a0 k
  have ih0 := bulletinlaw23_MboxJust.mono_l k
  unfold bulletinlaw23_MboxJust.f
  repeat' first | (with_reducible first | exact ih0 _ _ _ _ _ | exact bulletinlaw23_works.mono _ | exact mbox_Entry.mono _ _ _ _ _ | exact mbox_Right.mono _ _ _ _ _ | exact mbox_Split.mono _ _ | exact LeO.refl _ | exact LeO.none _ | refine LeO.ite ?_ ?_ | refine LeO.bind ?_ (fun _ => ?_)) | exact ih0 _ _ _ _ _ | exact bulletinlaw23_works.mono _ | exact mbox_Entry.mono _ _ _ _ _ | exact mbox_Right.mono _ _ _ _ _ | exact mbox_Split.mono _ _ | exact LeO.none _ | refine LeO.ite ?_ ?_ | refine LeO.bind ?_ (fun _ => ?_)
set_option maxHeartbeats 8000000 in
set_option maxRecDepth 100000 in
theorem bulletinlaw23_MboxJust.calls (k : Nat) (a0 : ByteArray) (r : Bool) (w : World) (hG : Amb w) (h : bulletinlaw23_MboxJust.f k a0 = some r) :
    Calls Tryz.prog 7 #[.string a0] w fun e w' => e = .returned (.bool r) ∧ Below w.heap.size w w' := by
 have hu34 := Tryz.underlying34
 have HB := Aside0.mk (Below.refl w.heap.size w)
 unfold bulletinlaw23_MboxJust.f at h
 have H := h
 clear h
 have HG := Aside0.mk hG
 clear hG
 replace H := Option.bind_eq_some_iff.mp H
 obtain ⟨t633, A20, H⟩ := H
 try dsimp only at H
 have A2 := Aside0.mk A20
 clear A20
 obtain ⟨rfl, H⟩ := iteS H
 by_cases c4 : (a0.size : Int) > 2000
 ·rw [if_pos c4] at H
  have c4b0 : decide (2000 < (a0.size : Int)) = true := decide_eq_true c4
  have c4b1 : decide (2000 < a0.size) = true := decide_eq_true (by omega)
  clear c4
  obtain rfl := Option.some.inj H
  go_enter Tryz.func7, Tryz.ntmps7
  go_wp2_with (first | ((with_reducible refine gc 9 rfl ?_); refine cl_ (some 8) Tryz.func9 (bulletinlaw23_works.calls k  true _ (Amb.at HG.out blw) A2.out) ?_; rintro w5 hb; replace HB := Aside0.mk (below_step blw hb); (try clear hb)))
  go_ret
  exact ⟨by first | rfl | (simp [errW_none, errW_some] <;> rfl) | (simp [*, errW_none, errW_some] <;> rfl), blw⟩
 ·rw [if_neg c4] at H
  have c4b0 : decide (2000 < (a0.size : Int)) = false := decide_eq_false c4
  have c4b1 : decide (2000 < a0.size) = false := decide_eq_false (by omega)
  clear c4
  replace H := Option.bind_eq_some_iff.mp H
  obtain ⟨⟨t634, t635⟩, A60, H⟩ := H
  try dsimp only at H
  have A6 := Aside0.mk A60
  clear A60
  by_cases c7 : t635 = 0
  ·rw [if_pos c7] at H
   have c7b0 := beq_iff_eq.mpr c7
   have c7b1 := bne_eq_false_iff_eq.mpr c7
   clear c7
   have H' := Aside0.mk H
   clear H
   go_enter Tryz.func7, Tryz.ntmps7
   go_wp2_with (first | ((with_reducible refine gc 9 rfl ?_); refine cl_ (some 8) Tryz.func9 (bulletinlaw23_works.calls k  true _ (Amb.at HG.out blw) A2.out) ?_; rintro w8 hb; replace HB := Aside0.mk (below_step blw hb); (try clear hb)) | ((with_reducible refine gc 20 rfl ?_); refine gl_ (some 15) Tryz.func20 #[.string a0] ?_; (with_reducible refine (mbox_Split.calls k a0 t634 t635 _ ?side1 A6.out).mono ?_); (case side1 => exact Amb.at HG.out blw); rintro e w9 ⟨v636, rfl, ho0, hb⟩; refine ⟨_, rfl, ?_⟩; have HO637 := Aside0.mk (Kd.R_lower ho0 (below_size blw)); replace HB := Aside0.mk (below_step blw hb); (try clear hb); (try clear ho0); obtain ⟨Ao10, co10, eo10⟩ := Kd.R_slice HO637.out; subst eo10))
   go_loopg [5, 25] k (fun kq v5 v25 w' => ∃ (x5_1 : ByteArray) (x25_1 : Int), v5 = .string x5_1 ∧ v25 = .int .i64 x25_1 ∧ Aside0 (bulletinlaw23_MboxJust.l0 kq a0 x5_1 t634 (t634.length : Int) x25_1 = some r) ∧ Aside0 (kq ≤ k) ∧ Aside0 (Kd.R k34 34 w' w.heap.size (fun _ => True) (.slice Ao10 t634.length co10) t634) ∧ Aside0 (Below w.heap.size w w'))
   case atStart => exact ⟨((⟨#[]⟩ : ByteArray)), (0), eqs, eqs, H', ⟨Nat.le_refl _⟩, ⟨by (with_reducible repeat (first | apply Kd.R_alloc | apply Kd.R_drewN | apply Kd.R_drew)); exact HO637.out⟩, ⟨blw⟩⟩
   case round =>
    clear H'
    try clear c2
    try clear p2
    try clear c3
    try clear c4
    try clear c4b0
    try clear c4b1
    try clear c7
    try clear c7b0
    try clear c7b1
    try clear c9
    obtain ⟨x5_1, x25_1, rfl, rfl, HA, HK1, HO_23, HB⟩ := hrel
    cases gk with
    | zero => exact absurd HA.out (by simp [bulletinlaw23_MboxJust.l0])
    | succ k1 =>
     have H := HA.out
     clear HA
     simp only [bulletinlaw23_MboxJust.l0] at H
     by_cases c11 : x25_1 < (t634.length : Int)
     ·rw [if_pos c11] at H
      have c11b0 := decide_eq_true c11
      clear c11
      obtain ⟨c12, H⟩ := iteS H
      have c12b0 := decide_eq_true c12
      clear c12
      obtain ⟨c13, H⟩ := iteS H
      have c13b0 := decide_eq_true c13
      clear c13
      replace H := Option.bind_eq_some_iff.mp H
      obtain ⟨t640, A140, H⟩ := H
      try dsimp only at H
      have A14 := Aside0.mk A140
      clear A140
      obtain ⟨rfl, H⟩ := iteS H
      replace H := Option.bind_eq_some_iff.mp H
      obtain ⟨t641, A160, H⟩ := H
      try dsimp only at H
      have A16 := Aside0.mk A160
      clear A160
      obtain ⟨c17, H⟩ := iteS H
      have c17b0 := eq_true c17
      have c17b1 := decide_eq_true c17
      try have c17b2 := eq_false (Nat.not_lt.2 c17)
      have H' := Aside0.mk H
      clear H
      have p638 : 0 ≤ (x25_1 : Int) := od_
      have q638 : x25_1 < (t634.length : Int) := od_
      obtain ⟨ad638, e638, hx638_0, hx638_1, hx638_2, hx638_3⟩ := at_T34 (Kd.R_reads' HO_23.out).2.2 x25_1 p638 q638
      cases e638
      replace p638 := eq_true p638
      replace q638 := eq_true q638
      go_wp2_with (first | ((with_reducible refine gate_dst (N := 7) rfl ?_); refine box_event ?hg (N := 7) ?hd (cs := #[.string (⟨#[]⟩ : ByteArray), .string (⟨#[]⟩ : ByteArray), .int .i64 0, .string (⟨#[]⟩ : ByteArray)]) (t := 34) ?hr ?_; (case hd => rfl); (case hg => rfl); (case hr => first | (go_simp; done) | (go_simp; rfl)); intro gb639 hg w18 hbox hb; replace HO_23 := Aside0.mk (Kd.R_below (Kd.R_elderB (by (with_reducible repeat (first | apply Kd.R_alloc | apply Kd.R_drewN | apply Kd.R_drew)); exact HO_23.out) gb639 (Nat.le_of_eq hg.symm)) hb); have BK639 := Aside0.mk (hbox); have GW639 : Aside0 (w.heap.size ≤ gb639) := gw_ hg; have GE639 : Aside0 (w.heap.size ≤ gb639) := gw_ hg; replace HB := Aside0.mk (below_step blw hb); clear hb hbox hg; have hcz19_0 : w18.cell? ⟨gb639, 0, none⟩ = some (.string (⟨#[]⟩ : ByteArray)) := bk_ BK639; have hcz19_1 : w18.cell? ⟨gb639, 1, none⟩ = some (.string (⟨#[]⟩ : ByteArray)) := bk_ BK639; have hcz19_2 : w18.cell? ⟨gb639, 2, none⟩ = some (.int .i64 0) := bk_ BK639; have hcz19_3 : w18.cell? ⟨gb639, 3, none⟩ = some (.string (⟨#[]⟩ : ByteArray)) := bk_ BK639; have hfz19_0 := blk_frozen BK639.out 0; have hfz19_1 := blk_frozen BK639.out 1; have hfz19_2 := blk_frozen BK639.out 2; have hfz19_3 := blk_frozen BK639.out 3) | ((with_reducible refine gc 18 rfl ?_); refine cl_ (some 30) Tryz.func18 (mbox_Right.calls k1 ((rd_T34 t634 x25_1).f0.f0) ((rd_T34 t634 x25_1).f0.f1) ((rd_T34 t634 x25_1).f1) ((rd_T34 t634 x25_1).f2) true _ A14.out) ?_; rintro w20 hb; replace HO_23 := Aside0.mk (Kd.R_below (by (with_reducible repeat (first | apply Kd.R_alloc | apply Kd.R_drewN | apply Kd.R_drew)); exact (Kd.R_mono (Kd.R_far (p := ⟨gb639, 3, none⟩) (Kd.R_far (p := ⟨gb639, 2, none⟩) (Kd.R_far (p := ⟨gb639, 1, none⟩) (Kd.R_far (p := ⟨gb639, 0, none⟩) (Kd.R_mono HO_23.out (fun k_ hk => (⟨hk, hk.2⟩ : _ ∧ k_ ≠ gb639))) (fun _ hk => hk.2) (.string ((rd_T34 t634 x25_1).f0.f0))) (fun _ hk => hk.2) (.string ((rd_T34 t634 x25_1).f0.f1))) (fun _ hk => hk.2) (.int .i64 ((rd_T34 t634 x25_1).f1))) (fun _ hk => hk.2) (.string ((rd_T34 t634 x25_1).f2))) (fun _ h_ => h_.1))) hb); replace BK639 := Aside0.mk (blk_below (g := gb639) (o := .cells #[.string ((rd_T34 t634 x25_1).f0.f0), .string ((rd_T34 t634 x25_1).f0.f1), .int .i64 ((rd_T34 t634 x25_1).f1), .string ((rd_T34 t634 x25_1).f2)] 34 (0, 0)) (by (with_reducible repeat (first | refine blk_drewN ?_ _ | refine blk_drew ?_ | refine blk_alloc ?_ _)); refine blk_put (cs := #[.string ((rd_T34 t634 x25_1).f0.f0), .string ((rd_T34 t634 x25_1).f0.f1), .int .i64 ((rd_T34 t634 x25_1).f1), .string (⟨#[]⟩ : ByteArray)]) ?_ 3 _ rfl; (with_reducible repeat (first | refine blk_drewN ?_ _ | refine blk_drew ?_ | refine blk_alloc ?_ _)); refine blk_put (cs := #[.string ((rd_T34 t634 x25_1).f0.f0), .string ((rd_T34 t634 x25_1).f0.f1), .int .i64 0, .string (⟨#[]⟩ : ByteArray)]) ?_ 2 _ rfl; (with_reducible repeat (first | refine blk_drewN ?_ _ | refine blk_drew ?_ | refine blk_alloc ?_ _)); refine blk_put (cs := #[.string ((rd_T34 t634 x25_1).f0.f0), .string (⟨#[]⟩ : ByteArray), .int .i64 0, .string (⟨#[]⟩ : ByteArray)]) ?_ 1 _ rfl; (with_reducible repeat (first | refine blk_drewN ?_ _ | refine blk_drew ?_ | refine blk_alloc ?_ _)); refine blk_put (cs := #[.string (⟨#[]⟩ : ByteArray), .string (⟨#[]⟩ : ByteArray), .int .i64 0, .string (⟨#[]⟩ : ByteArray)]) ?_ 0 _ rfl; (with_reducible repeat (first | refine blk_drewN ?_ _ | refine blk_drew ?_ | refine blk_alloc ?_ _)); exact BK639.out) hb); replace HB := Aside0.mk (below_step blw hb); (try clear hb); have hcz21_0 : w20.cell? ⟨gb639, 0, none⟩ = some (.string ((rd_T34 t634 x25_1).f0.f0)) := bk_ BK639; have hcz21_1 : w20.cell? ⟨gb639, 1, none⟩ = some (.string ((rd_T34 t634 x25_1).f0.f1)) := bk_ BK639; have hcz21_2 : w20.cell? ⟨gb639, 2, none⟩ = some (.int .i64 ((rd_T34 t634 x25_1).f1)) := bk_ BK639; have hcz21_3 : w20.cell? ⟨gb639, 3, none⟩ = some (.string ((rd_T34 t634 x25_1).f2)) := bk_ BK639; have hfz21_0 := blk_frozen BK639.out 0; have hfz21_1 := blk_frozen BK639.out 1; have hfz21_2 := blk_frozen BK639.out 2; have hfz21_3 := blk_frozen BK639.out 3) | ((with_reducible refine gc 15 rfl ?_); refine cl_ (some 34) Tryz.func15 (mbox_Entry.calls k1 ((rd_T34 t634 x25_1).f0.f0) ((rd_T34 t634 x25_1).f0.f1) ((rd_T34 t634 x25_1).f1) ((rd_T34 t634 x25_1).f2) t641 _ (Amb.at HG.out blw) A16.out) ?_; rintro w22 hb; replace HO_23 := Aside0.mk (Kd.R_below (by (with_reducible repeat (first | apply Kd.R_alloc | apply Kd.R_drewN | apply Kd.R_drew)); exact HO_23.out) hb); replace BK639 := Aside0.mk (blk_below (g := gb639) (o := .cells #[.string ((rd_T34 t634 x25_1).f0.f0), .string ((rd_T34 t634 x25_1).f0.f1), .int .i64 ((rd_T34 t634 x25_1).f1), .string ((rd_T34 t634 x25_1).f2)] 34 (0, 0)) (bkw BK639) hb); replace HB := Aside0.mk (below_step blw hb); (try clear hb)))
      go_roundg k1
      case measure => have := HK1.out; omega
      case rel => exact ⟨(x5_1 ++ t641), (wrap64 (x25_1 + 1)), eqs, eqs, H', ⟨by have := HK1.out; omega⟩, ⟨by (with_reducible repeat (first | apply Kd.R_alloc | apply Kd.R_drewN | apply Kd.R_drew)); exact Kd.R_mono HO_23.out (fun _ hk => trivial)⟩, ⟨blw⟩⟩
     ·rw [if_neg c11] at H
      have c11b0 := decide_eq_false c11
      clear c11
      obtain rfl := Option.some.inj H
      go_wp2
      go_ret
      exact ⟨by first | rfl | (simp [errW_none, errW_some] <;> rfl) | (simp [*, errW_none, errW_some] <;> rfl), blw⟩
  ·rw [if_neg c7] at H
   have c7b0 := beq_eq_false_iff_ne.mpr c7
   have c7b1 := bne_iff_ne.mpr c7
   obtain rfl := Option.some.inj H
   go_enter Tryz.func7, Tryz.ntmps7
   go_wp2_with (first | ((with_reducible refine gc 9 rfl ?_); refine cl_ (some 8) Tryz.func9 (bulletinlaw23_works.calls k  true _ (Amb.at HG.out blw) A2.out) ?_; rintro w23 hb; replace HB := Aside0.mk (below_step blw hb); (try clear hb)) | ((with_reducible refine gc 20 rfl ?_); refine gl_ (some 15) Tryz.func20 #[.string a0] ?_; (with_reducible refine (mbox_Split.calls k a0 t634 t635 _ ?side1 A6.out).mono ?_); (case side1 => exact Amb.at HG.out blw); rintro e w24 ⟨v636, rfl, ho0, hb⟩; refine ⟨_, rfl, ?_⟩; have HO637 := Aside0.mk (Kd.R_lower ho0 (below_size blw)); replace HB := Aside0.mk (below_step blw hb); (try clear hb); (try clear ho0); obtain ⟨Ao25, co25, eo25⟩ := Kd.R_slice HO637.out; subst eo25))
   go_ret
   exact ⟨by first | rfl | (simp [errW_none, errW_some] <;> rfl) | (simp [*, errW_none, errW_some] <;> rfl), blw⟩

/-- THE ONE PURE STATEMENT of bulletinlaw23_MboxJust: yours. -/
def bulletinlaw23_MboxJust.Pure : Prop := ∀ (a0 : ByteArray), a0.size ≤ 140737488351232 → ∃ k, bulletinlaw23_MboxJust.f k a0 = some true
theorem bulletinlaw23_MboxJust.walk (P : bulletinlaw23_MboxJust.Pure) (a0 : ByteArray) (w : World) (hG : Amb w) (w0 : a0.size ≤ 140737488351232) :
    Calls Tryz.prog 7 #[.string a0] w fun e w' => e = .returned (.bool true) ∧ Below w.heap.size w w' := by
  obtain ⟨k, h⟩ := P a0 w0
  refine (bulletinlaw23_MboxJust.calls k a0 true w hG h).mono ?_
  rintro e w' ⟨rfl, hd⟩
  exact ⟨rfl, hd⟩
end Go.Proofs.YtcpmoolpbeeedaaGreatDoor.Q
