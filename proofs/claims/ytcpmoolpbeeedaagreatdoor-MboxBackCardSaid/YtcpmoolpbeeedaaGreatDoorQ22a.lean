-- Written by a program of this session (wip/myprint) out of the translation, for YtcpmoolpbeeedaaGreatDoor.
import Derived.Test.YtcpmoolpbeeedaaGreatDoorQ0
import Derived.Test.YtcpmoolpbeeedaaGreatDoorQ123
import Derived.Test.YtcpmoolpbeeedaaGreatDoorQ21
import Derived.Test.YtcpmoolpbeeedaaGreatDoorQ8
namespace Go.Proofs.YtcpmoolpbeeedaaGreatDoor.Q
open Go.RowKit Go.Proofs.YtcpmoolpbeeedaaGreatDoorW.PrintWords Go.Proofs.YtcpmoolpbeeedaaGreatDoorW.PrintLast Go.Proofs.YtcpmoolpbeeedaaGreatDoorW.PrintMore Go.Proofs.YtcpmoolpbeeedaaGreatDoorW.PrintSq
attribute [local go_sem] max2_int min2_int max_two min_two max_three min_three max_four min_four   -- for this text's walks alone
set_option linter.unusedVariables false
set_option linter.unusedSimpArgs false

attribute [local go_sem high] eqA34
/-! ### mbox_Split: function 20 -/
def mbox_Split.l0 : Nat → ByteArray → List (S34) → Option ((List (S34)) × Int)
  | 0, _, _ => none
  | k + 1, x0, x4 => if x0.toList = ([] : List UInt8) then (some (x4, 0)) else ((mbox_cut.f x0).bind fun t371 => (if 0 ≤ t371 then (if t371 ≤ (x0.size : Int) then ((mbox_entry.f k (x0.extract 0 (t371 : Int).toNat)).bind fun bt372 => (if bt372.2.2.2.2 = true then (if x4.length < 2513169434916 then (mbox_Split.l0 k (x0.extract (t371 : Int).toNat x0.size) (x4 ++ [(⟨(⟨bt372.1, bt372.2.1⟩ : S32), bt372.2.2.1, bt372.2.2.2.1⟩ : S34)])) else (none)) else (some (([] : List (S34)), 3)))) else (none)) else (none)))
def mbox_Split.f (k : Nat) (a0 : ByteArray) : Option ((List (S34)) × Int) := mbox_Split.l0 k a0 ([] : List (S34))
theorem mbox_Split.mono_l : ∀ k, (∀ y0 y1, LeO (mbox_Split.l0 k y0 y1) (mbox_Split.l0 (k + 1) y0 y1))
  | 0 => fun _ _ r h => by simp [mbox_Split.l0] at h
  | k + 1 => by
    have ih0 := mbox_Split.mono_l k
    · intro y0 y1
      unfold mbox_Split.l0
      repeat' first | (with_reducible first | exact ih0 _ _ | exact mbox_entry.mono _ _ | exact LeO.refl _ | exact LeO.none _ | refine LeO.ite ?_ ?_ | refine LeO.bind ?_ (fun _ => ?_)) | exact ih0 _ _ | exact mbox_entry.mono _ _ | exact LeO.none _ | refine LeO.ite ?_ ?_ | refine LeO.bind ?_ (fun _ => ?_)
theorem mbox_Split.mono : ∀ a0 k, LeO (mbox_Split.f k a0) (mbox_Split.f (k + 1) a0) := by
  intro a0 k
  have ih0 := mbox_Split.mono_l k
  unfold mbox_Split.f
  repeat' first | (with_reducible first | exact ih0 _ _ | exact mbox_entry.mono _ _ | exact LeO.refl _ | exact LeO.none _ | refine LeO.ite ?_ ?_ | refine LeO.bind ?_ (fun _ => ?_)) | exact ih0 _ _ | exact mbox_entry.mono _ _ | exact LeO.none _ | refine LeO.ite ?_ ?_ | refine LeO.bind ?_ (fun _ => ?_)
set_option maxHeartbeats 8000000 in
set_option maxRecDepth 100000 in
theorem mbox_Split.calls (k : Nat) (a0 : ByteArray) (r1 : List (S34)) (r2 : Int) (w : World) (hG : Amb w) (h : mbox_Split.f k a0 = some (r1, r2)) :
    Calls Tryz.prog 20 #[.string a0] w fun e w' => ∃ v0_ : Value, e = .returned (.tuple #[v0_, .int .i64 r2]) ∧ Kd.R k34 34 w' w.heap.size (fun _ => True) v0_ r1 ∧ Below w.heap.size w w' := by
 have hu34 := Tryz.underlying34
 have HB := Aside0.mk (Below.refl w.heap.size w)
 unfold mbox_Split.f at h
 have H := h
 clear h
 have HG := Aside0.mk hG
 clear hG
 have H' := Aside0.mk H
 clear H
 go_enter Tryz.func20, Tryz.ntmps20
 go_wp2
 go_loopg [0, 4] k (fun kq v0 v4 w' => ∃ (x0_1 : ByteArray) (x4_1 : List (S34)), v0 = .string x0_1 ∧ Aside0 (mbox_Split.l0 kq x0_1 x4_1 = some (r1, r2)) ∧ Aside0 (kq ≤ k) ∧ Aside0 (Kd.R k34 34 w' w.heap.size (fun _ => True) v4 x4_1) ∧ Aside0 (Below w.heap.size w w'))
 case atStart => exact ⟨(a0), (([] : List (S34))), (by first | rfl | (simp; done) | (simp [*]; done) | (simp; exact (by intro l_; cases l_ <;> rfl : ∀ l_ : List UInt8, l_.isEmpty = !(l_ != [])) _)), H', ⟨Nat.le_refl _⟩, ⟨by first | exact Kd.R_nil _ _ _ _ _ | exact Kd.N_nil _ _ _ _ _ | exact Kd.V_nil _ _ _ _ _ | exact Kd.Q_nil _ _ _ _ _ | exact Kd.S_nil _ _ _ _ _⟩, ⟨blw⟩⟩
 case round =>
  clear H'
  obtain ⟨x0_1, x4_1, rfl, HA, HK1, HO_4, HB⟩ := hrel
  cases gk with
  | zero => exact absurd HA.out (by simp [mbox_Split.l0])
  | succ k1 =>
   have H := HA.out
   clear HA
   simp only [mbox_Split.l0] at H
   by_cases c2 : x0_1.toList = ([] : List UInt8)
   ·rw [if_pos c2] at H
    have c2b0 := beq_iff_eq.mpr c2
    have c2b1 := bne_eq_false_iff_eq.mpr c2
    clear c2
    simp only [Option.some.injEq, Prod.mk.injEq] at H
    obtain ⟨rfl, rfl⟩ := H
    go_wp2
    go_ret2
    exact ⟨_, by first | rfl | (simp [errW_none, errW_some] <;> rfl) | (simp [*, errW_none, errW_some] <;> rfl), by (with_reducible repeat (first | apply Kd.R_alloc | apply Kd.R_drewN | apply Kd.R_drew)); exact HO_4.out, blw⟩
   ·rw [if_neg c2] at H
    have c2b0 := beq_eq_false_iff_ne.mpr c2
    have c2b1 := bne_iff_ne.mpr c2
    replace H := Option.bind_eq_some_iff.mp H
    obtain ⟨t371, A30, H⟩ := H
    try dsimp only at H
    have A3 := Aside0.mk A30
    clear A30
    obtain ⟨c4, H⟩ := iteS H
    have c4b0 := eq_true c4
    have c4b1 := decide_eq_true c4
    clear c4
    obtain ⟨c5, H⟩ := iteS H
    have c5b0 := eq_true c5
    have c5b1 := decide_eq_true c5
    clear c5
    replace H := Option.bind_eq_some_iff.mp H
    obtain ⟨⟨t372, t373, t374, t375, t376⟩, A60, H⟩ := H
    try dsimp only at H
    have A6 := Aside0.mk A60
    clear A60
    by_cases c7 : t376 = true
    ·subst c7
     rw [if_pos rfl] at H
     obtain ⟨c8, H⟩ := iteS H
     have LMc8 := Aside0.mk c8
     clear c8
     obtain ⟨y378, hy378⟩ : ∃ y_ : List (S34), y_ = (x4_1 ++ [(⟨(⟨t372, t373⟩ : S32), t374, t375⟩ : S34)]) := ⟨_, rfl⟩
     replace H : (mbox_Split.l0 k1 (x0_1.extract (t371 : Int).toNat x0_1.size) y378) = some (r1, r2) := by first | (rw [hy378]; with_reducible exact H) | (have H2_ := (Option.bind_some _ _).symm.trans H; rw [hy378]; with_reducible exact H2_) | (have H2_ := (Option.bind_some _ _).symm.trans H; with_reducible exact H2_) | with_reducible exact H | (rw [hy378]; exact H) | exact H
     have Ny378 := Aside0.mk hy378
     clear hy378
     have c9b0 := eq_true (od_ : 0 ≤ t371)
     have c10b0 := eq_true (od_ : t371 ≤ (x0_1.size : Int))
     have H' := Aside0.mk H
     clear H
     go_wp2_with (first | ((with_reducible refine gc 40 rfl ?_); refine cl_ (some 11) Tryz.func40 (mbox_cut.calls x0_1 t371 _ (Amb.at HG.out blw) A3.out) ?_; rintro w' ⟨nd, rfl⟩; (try (rw [drewN_self wr]; generalize hq_ : World.drewN wr _ = wr; have n0_ : Aside0 (Kd.R k34 34 wr w.heap.size (fun _ => True) u4 x4_1) := ⟨by rw [← hq_]; exact (by (with_reducible repeat (first | apply Kd.R_alloc | apply Kd.R_drewN | apply Kd.R_drew)); exact HO_4.out)⟩; have n1_ : Aside0 (Below w.heap.size w wr) := ⟨by rw [← hq_]; exact blw⟩; clear HO_4 HB hq_; have HO_4 := n0_; have HB := n1_; clear n0_ n1_))) | ((with_reducible refine gc 41 rfl ?_); refine cl_ (some 16) Tryz.func41 (mbox_entry.calls k1 (x0_1.extract 0 (t371 : Int).toNat) t372 t373 t374 t375 true _ (Amb.at HG.out blw) A6.out) ?_; rintro w11 hb; replace HO_4 := Aside0.mk (Kd.R_below (by (with_reducible repeat (first | apply Kd.R_alloc | apply Kd.R_drewN | apply Kd.R_drew)); exact HO_4.out) hb); replace HB := Aside0.mk (below_step blw hb); (try clear hb)) | ((with_reducible refine gate_dst (N := 6) rfl ?_); refine box_event ?hg (N := 6) ?hd (cs := #[.string (⟨#[]⟩ : ByteArray), .string (⟨#[]⟩ : ByteArray), .int .i64 0, .string (⟨#[]⟩ : ByteArray)]) (t := 34) ?hr ?_; (case hd => rfl); (case hg => rfl); (case hr => first | (go_simp; done) | (go_simp; rfl)); intro gb377 hg w12 hbox hb; replace HO_4 := Aside0.mk (Kd.R_below (Kd.R_elderB (by (with_reducible repeat (first | apply Kd.R_alloc | apply Kd.R_drewN | apply Kd.R_drew)); exact HO_4.out) gb377 (Nat.le_of_eq hg.symm)) hb); have BK377 := Aside0.mk (hbox); have GW377 : Aside0 (w.heap.size ≤ gb377) := gw_ hg; have GE377 : Aside0 (w.heap.size ≤ gb377) := gw_ hg; replace HB := Aside0.mk (below_step blw hb); clear hb hbox hg; have hcz13_0 : w12.cell? ⟨gb377, 0, none⟩ = some (.string (⟨#[]⟩ : ByteArray)) := bk_ BK377; have hcz13_1 : w12.cell? ⟨gb377, 1, none⟩ = some (.string (⟨#[]⟩ : ByteArray)) := bk_ BK377; have hcz13_2 : w12.cell? ⟨gb377, 2, none⟩ = some (.int .i64 0) := bk_ BK377; have hcz13_3 : w12.cell? ⟨gb377, 3, none⟩ = some (.string (⟨#[]⟩ : ByteArray)) := bk_ BK377; have hfz13_0 := blk_frozen BK377.out 0; have hfz13_1 := blk_frozen BK377.out 1; have hfz13_2 := blk_frozen BK377.out 2; have hfz13_3 := blk_frozen BK377.out 3) | ((with_reducible refine gate_builtin (b := .append) (xs := #[.tmp 21, .tmp 23]) rfl ?_); at_builtin; refine Kd.R_append k34 (w0 := w) w.heap.size rfl (.tmp 21) (.tmp 23) 39 34 (.agg #[(.string ⟨#[]⟩), (.string ⟨#[]⟩), (.int .i64 0), (.string ⟨#[]⟩)]) 56 rfl Tryz.underlying39 info34 rfl (by decide) (by omega) u4 x4_1 (⟨(⟨t372, t373⟩ : S32), t374, t375⟩ : S34) [.string t372, .string t373, .int .i64 t374, .string t375] (fun k_ => k_ ≠ gb377) (fun _ => False) rfl (by first | (go_simp; done) | (go_simp; rfl)) ?aP (fun _ hk => hk.elim) ?aF ?aO ?aB ?aS ?aL ?_; (case aP => exact k34_mkM _ _ _ (⟨(⟨t372, t373⟩ : S32), t374, t375⟩ : S34)); (case aB => exact blw); (case aF => exact (fun k_ hk => Kd.freshB (g := gb377) (o := .cells #[.string t372, .string t373, .int .i64 t374, .string t375] 34 (0, 0)) (by (with_reducible repeat (first | refine blk_drewN ?_ _ | refine blk_drew ?_ | refine blk_alloc ?_ _)); refine blk_put (cs := #[.string t372, .string t373, .int .i64 t374, .string (⟨#[]⟩ : ByteArray)]) ?_ 3 _ rfl; (with_reducible repeat (first | refine blk_drewN ?_ _ | refine blk_drew ?_ | refine blk_alloc ?_ _)); refine blk_put (cs := #[.string t372, .string t373, .int .i64 0, .string (⟨#[]⟩ : ByteArray)]) ?_ 2 _ rfl; (with_reducible repeat (first | refine blk_drewN ?_ _ | refine blk_drew ?_ | refine blk_alloc ?_ _)); refine blk_put (cs := #[.string t372, .string (⟨#[]⟩ : ByteArray), .int .i64 0, .string (⟨#[]⟩ : ByteArray)]) ?_ 1 _ rfl; (with_reducible repeat (first | refine blk_drewN ?_ _ | refine blk_drew ?_ | refine blk_alloc ?_ _)); refine blk_put (cs := #[.string (⟨#[]⟩ : ByteArray), .string (⟨#[]⟩ : ByteArray), .int .i64 0, .string (⟨#[]⟩ : ByteArray)]) ?_ 0 _ rfl; (with_reducible repeat (first | refine blk_drewN ?_ _ | refine blk_drew ?_ | refine blk_alloc ?_ _)); exact BK377.out) k_ hk)); (case aO => exact (by (with_reducible repeat (first | apply Kd.R_alloc | apply Kd.R_drewN | apply Kd.R_drew)); exact Kd.R_mono (Kd.R_far (p := ⟨gb377, 3, none⟩) (Kd.R_far (p := ⟨gb377, 2, none⟩) (Kd.R_far (p := ⟨gb377, 1, none⟩) (Kd.R_far (p := ⟨gb377, 0, none⟩) (Kd.R_mono HO_4.out (fun k_ hk => (⟨hk, hk.2⟩ : _ ∧ k_ ≠ gb377))) (fun _ hk => hk.2) (.string t372)) (fun _ hk => hk.2) (.string t373)) (fun _ hk => hk.2) (.int .i64 t374)) (fun _ hk => hk.2) (.string t375)) (fun _ hk => hk.1.2))); (case aS => exact (below_size blw)); (case aL => have := LMc8.out; omega); intro v379 w14 ho hb hg hat; rw [← Ny378.out] at ho; have n0_ := Aside0.mk (blk_grown (g := gb377) (o := .cells #[.string t372, .string t373, .int .i64 t374, .string t375] 34 (0, 0)) (by (with_reducible repeat (first | refine blk_drewN ?_ _ | refine blk_drew ?_ | refine blk_alloc ?_ _)); refine blk_put (cs := #[.string t372, .string t373, .int .i64 t374, .string (⟨#[]⟩ : ByteArray)]) ?_ 3 _ rfl; (with_reducible repeat (first | refine blk_drewN ?_ _ | refine blk_drew ?_ | refine blk_alloc ?_ _)); refine blk_put (cs := #[.string t372, .string t373, .int .i64 0, .string (⟨#[]⟩ : ByteArray)]) ?_ 2 _ rfl; (with_reducible repeat (first | refine blk_drewN ?_ _ | refine blk_drew ?_ | refine blk_alloc ?_ _)); refine blk_put (cs := #[.string t372, .string (⟨#[]⟩ : ByteArray), .int .i64 0, .string (⟨#[]⟩ : ByteArray)]) ?_ 1 _ rfl; (with_reducible repeat (first | refine blk_drewN ?_ _ | refine blk_drew ?_ | refine blk_alloc ?_ _)); refine blk_put (cs := #[.string (⟨#[]⟩ : ByteArray), .string (⟨#[]⟩ : ByteArray), .int .i64 0, .string (⟨#[]⟩ : ByteArray)]) ?_ 0 _ rfl; (with_reducible repeat (first | refine blk_drewN ?_ _ | refine blk_drew ?_ | refine blk_alloc ?_ _)); exact BK377.out) hg (Kd.R_away HO_4.out (fun _ hk => hk.2))); have n1_ := Aside0.mk (hb); have n2_ := Aside0.mk (ho); clear BK377; clear HB; clear HO_4; have BK377 := n0_; have HB := n1_; have HO380 := n2_; clear n0_ n1_ n2_; clear ho hb hg hat))
     go_roundg k1
     case measure => have := HK1.out; omega
     case rel => exact ⟨(x0_1.extract (t371 : Int).toNat x0_1.size), (y378), (by first | rfl | (simp; done) | (simp [*]; done) | (simp; exact (by intro l_; cases l_ <;> rfl : ∀ l_ : List UInt8, l_.isEmpty = !(l_ != [])) _)), H', ⟨by have := HK1.out; omega⟩, ⟨by (with_reducible repeat (first | apply Kd.R_alloc | apply Kd.R_drewN | apply Kd.R_drew)); exact Kd.R_mono HO380.out (fun _ hk => trivial)⟩, ⟨blw⟩⟩
    ·replace c7 := Bool.eq_false_iff.mpr c7
     subst c7
     rw [if_neg nft] at H
     simp only [Option.some.injEq, Prod.mk.injEq] at H
     obtain ⟨rfl, rfl⟩ := H
     go_wp2_with (first | ((with_reducible refine gc 40 rfl ?_); refine cl_ (some 11) Tryz.func40 (mbox_cut.calls x0_1 t371 _ (Amb.at HG.out blw) A3.out) ?_; rintro w' ⟨nd, rfl⟩; (try (rw [drewN_self wr]; generalize hq_ : World.drewN wr _ = wr; have n0_ : Aside0 (Kd.R k34 34 wr w.heap.size (fun _ => True) u4 x4_1) := ⟨by rw [← hq_]; exact (by (with_reducible repeat (first | apply Kd.R_alloc | apply Kd.R_drewN | apply Kd.R_drew)); exact HO_4.out)⟩; have n1_ : Aside0 (Below w.heap.size w wr) := ⟨by rw [← hq_]; exact blw⟩; clear HO_4 HB hq_; have HO_4 := n0_; have HB := n1_; clear n0_ n1_))) | ((with_reducible refine gc 41 rfl ?_); refine cl_ (some 16) Tryz.func41 (mbox_entry.calls k1 (x0_1.extract 0 (t371 : Int).toNat) t372 t373 t374 t375 false _ (Amb.at HG.out blw) A6.out) ?_; rintro w15 hb; replace HO_4 := Aside0.mk (Kd.R_below (by (with_reducible repeat (first | apply Kd.R_alloc | apply Kd.R_drewN | apply Kd.R_drew)); exact HO_4.out) hb); replace HB := Aside0.mk (below_step blw hb); (try clear hb)) | ((with_reducible refine gate_dst (N := 6) rfl ?_); refine box_event ?hg (N := 6) ?hd (cs := #[.string (⟨#[]⟩ : ByteArray), .string (⟨#[]⟩ : ByteArray), .int .i64 0, .string (⟨#[]⟩ : ByteArray)]) (t := 34) ?hr ?_; (case hd => rfl); (case hg => rfl); (case hr => first | (go_simp; done) | (go_simp; rfl)); intro gb377 hg w16 hbox hb; replace HO_4 := Aside0.mk (Kd.R_below (Kd.R_elderB (by (with_reducible repeat (first | apply Kd.R_alloc | apply Kd.R_drewN | apply Kd.R_drew)); exact HO_4.out) gb377 (Nat.le_of_eq hg.symm)) hb); have BK377 := Aside0.mk (hbox); have GW377 : Aside0 (w.heap.size ≤ gb377) := gw_ hg; have GE377 : Aside0 (w.heap.size ≤ gb377) := gw_ hg; replace HB := Aside0.mk (below_step blw hb); clear hb hbox hg; have hcz17_0 : w16.cell? ⟨gb377, 0, none⟩ = some (.string (⟨#[]⟩ : ByteArray)) := bk_ BK377; have hcz17_1 : w16.cell? ⟨gb377, 1, none⟩ = some (.string (⟨#[]⟩ : ByteArray)) := bk_ BK377; have hcz17_2 : w16.cell? ⟨gb377, 2, none⟩ = some (.int .i64 0) := bk_ BK377; have hcz17_3 : w16.cell? ⟨gb377, 3, none⟩ = some (.string (⟨#[]⟩ : ByteArray)) := bk_ BK377; have hfz17_0 := blk_frozen BK377.out 0; have hfz17_1 := blk_frozen BK377.out 1; have hfz17_2 := blk_frozen BK377.out 2; have hfz17_3 := blk_frozen BK377.out 3))
     go_ret2
     exact ⟨_, by first | rfl | (simp [errW_none, errW_some] <;> rfl) | (simp [*, errW_none, errW_some] <;> rfl), by first | exact Kd.R_nil _ _ _ _ _ | exact Kd.N_nil _ _ _ _ _ | exact Kd.V_nil _ _ _ _ _ | exact Kd.Q_nil _ _ _ _ _ | exact Kd.S_nil _ _ _ _ _, blw⟩
end Go.Proofs.YtcpmoolpbeeedaaGreatDoor.Q
