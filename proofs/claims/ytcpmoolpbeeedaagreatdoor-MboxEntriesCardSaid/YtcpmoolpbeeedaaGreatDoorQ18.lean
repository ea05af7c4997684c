-- Written by a program of this session (wip/myprint) out of the translation, for YtcpmoolpbeeedaaGreatDoor.
import Derived.Test.YtcpmoolpbeeedaaGreatDoorQ0
import Derived.Test.YtcpmoolpbeeedaaGreatDoorQ8
import Derived.Test.YtcpmoolpbeeedaaGreatDoorQ9
import Derived.Test.YtcpmoolpbeeedaaGreatDoorQ10
import Derived.Test.YtcpmoolpbeeedaaGreatDoorQ12
import Derived.Test.YtcpmoolpbeeedaaGreatDoorQ17
namespace Go.Proofs.YtcpmoolpbeeedaaGreatDoor.Q
open Go.RowKit Go.Proofs.YtcpmoolpbeeedaaGreatDoorW.PrintWords Go.Proofs.YtcpmoolpbeeedaaGreatDoorW.PrintLast Go.Proofs.YtcpmoolpbeeedaaGreatDoorW.PrintMore Go.Proofs.YtcpmoolpbeeedaaGreatDoorW.PrintSq
attribute [local go_sem] max2_int min2_int max_two min_two max_three min_three max_four min_four   -- for this text's walks alone
set_option linter.unusedVariables false
set_option linter.unusedSimpArgs false

/-! ### mbox_entry: function 41 -/
def mbox_entry.j0 : Nat → ByteArray → Int → ByteArray → Bool → ByteArray → ByteArray → Option (ByteArray × ByteArray × Int × ByteArray × Bool)
  | 0, _, _, _, _, _, _ => none
  | k + 1, x0, x8, x9, x37, x365000, x365001 => if x37 = true then (none) else ((mbox_Unquote.f x9).bind fun t367 => ((mbox_Right.f k x365000 x365001 x8 t367).bind fun t369 => (if t369 = true then ((mbox_Entry.f k x365000 x365001 x8 t367).bind fun t370 => (some (x365000, x365001, x8, t367, (t370.toList == x0.toList)))) else (none))))
def mbox_entry.f (k : Nat) (a0 : ByteArray) : Option (ByteArray × ByteArray × Int × ByteArray × Bool) := (strings_Cut.f a0 (⟨#[13, 10]⟩ : ByteArray)).bind fun bt357 => (if bt357.2.2 = true then ((mbox_begun.f k bt357.1).bind fun bt360 => ((strings_CutSuffix.f bt357.2.1 (⟨#[13, 10]⟩ : ByteArray)).bind fun bt365 => (if bt360.2.2.2 = true then (mbox_entry.j0 k a0 bt360.2.2.1 bt365.1 (!bt365.2) bt360.1 bt360.2.1) else (none)))) else (none))
theorem mbox_entry.mono_l : ∀ k, (∀ y0 y1 y2 y3 y4 y5, LeO (mbox_entry.j0 k y0 y1 y2 y3 y4 y5) (mbox_entry.j0 (k + 1) y0 y1 y2 y3 y4 y5))
  | 0 => fun _ _ _ _ _ _ r h => by simp [mbox_entry.j0] at h
  | k + 1 => by
    have ih0 := mbox_entry.mono_l k
    · intro y0 y1 y2 y3 y4 y5
      unfold mbox_entry.j0
      repeat' first | (with_reducible first | exact ih0 _ _ _ _ _ _ | exact mbox_Entry.mono _ _ _ _ _ | exact mbox_Right.mono _ _ _ _ _ | exact mbox_begun.mono _ _ | exact LeO.refl _ | exact LeO.none _ | refine LeO.ite ?_ ?_ | refine LeO.bind ?_ (fun _ => ?_)) | exact ih0 _ _ _ _ _ _ | exact mbox_Entry.mono _ _ _ _ _ | exact mbox_Right.mono _ _ _ _ _ | exact mbox_begun.mono _ _ | exact LeO.none _ | refine LeO.ite ?_ ?_ | refine LeO.bind ?_ (fun _ => ?_)
theorem mbox_entry.mono : ∀ a0 k, LeO (mbox_entry.f k a0) (mbox_entry.f (k + 1) a0) := by
  intro a0 k
  have ih0 := mbox_entry.mono_l k
  unfold mbox_entry.f
  repeat' first | (with_reducible first | exact ih0 _ _ _ _ _ _ | exact mbox_Entry.mono _ _ _ _ _ | exact mbox_Right.mono _ _ _ _ _ | exact mbox_begun.mono _ _ | exact LeO.refl _ | exact LeO.none _ | refine LeO.ite ?_ ?_ | refine LeO.bind ?_ (fun _ => ?_)) | exact ih0 _ _ _ _ _ _ | exact mbox_Entry.mono _ _ _ _ _ | exact mbox_Right.mono _ _ _ _ _ | exact mbox_begun.mono _ _ | exact LeO.none _ | refine LeO.ite ?_ ?_ | refine LeO.bind ?_ (fun _ => ?_)
def mbox_entry.T9 : Bool × List (List Nat × List Nat) := (true, [([], []), ([], []), ([1], [1]), ([2, 2], [2]), ([3], [3]), ([4, 3, 3], [3, 4]), ([3], [3]), ([5, 6, 3], [3, 5, 6]), ([3, 7], [3, 7]), ([0, 5, 0], [0]), ([8, 9, 0, 1, 2, 3, 4, 5, 6, 7, 8, 9], [8])])
def mbox_entry.B9 : List Nat := [0, 0, 2, 6, 14, 30, 14, 126, 254, 63, 1023]
theorem mbox_entry.tab9 : rtab .any (opsOf Tryz.f41 9) = mbox_entry.T9 := by kernel_rfl
theorem mbox_entry.bits9 : waitsOk mbox_entry.T9.2 mbox_entry.B9 = true := by kernel_rfl
set_option maxHeartbeats 8000000 in
set_option maxRecDepth 100000 in
theorem mbox_entry.calls (k : Nat) (a0 : ByteArray) (r1 : ByteArray) (r2 : ByteArray) (r3 : Int) (r4 : ByteArray) (r5 : Bool) (w : World) (hG : Amb w) (h : mbox_entry.f k a0 = some (r1, r2, r3, r4, r5)) :
    Calls Tryz.prog 41 #[.string a0] w fun e w' => e = .returned (.tuple #[.agg #[.string r1, .string r2, .int .i64 r3, .string r4], .bool r5]) ∧ Below w.heap.size w w' := by
 have hu34 := Tryz.underlying34
 have hu32 := Tryz.underlying32
 have HB := Aside0.mk (Below.refl w.heap.size w)
 unfold mbox_entry.f at h
 have H := h
 clear h
 have HG := Aside0.mk hG
 clear hG
 replace H := Option.bind_eq_some_iff.mp H
 obtain ⟨⟨t357, t358, t359⟩, A20, H⟩ := H
 try dsimp only at H
 have A2 := Aside0.mk A20
 clear A20
 replace H := iteS H; obtain ⟨rfl, H⟩ := H
 replace H := Option.bind_eq_some_iff.mp H
 obtain ⟨⟨t360, t361, t362, t363⟩, A40, H⟩ := H
 try dsimp only at H
 have A4 := Aside0.mk A40
 clear A40
 replace H := Option.bind_eq_some_iff.mp H
 obtain ⟨⟨t365, t366⟩, A50, H⟩ := H
 try dsimp only at H
 have A5 := Aside0.mk A50
 clear A50
 have HC6 := Aside0.mk H
 clear H
 go_enter Tryz.func41, Tryz.ntmps41
 go_upto_region 6 with (first | ((with_reducible refine gate_dst (N := 2) rfl ?_); refine box_event ?hg (N := 2) ?hd (cs := #[.string (⟨#[]⟩ : ByteArray), .string (⟨#[]⟩ : ByteArray), .int .i64 0, .string (⟨#[]⟩ : ByteArray)]) (t := 34) ?hr ?_; (case hd => rfl); (case hg => rfl); (case hr => first | (go_simp; done) | (go_simp; rfl)); intro gb356 hg w7 hbox hb; have BK356 := Aside0.mk (hbox); have GW356 : Aside0 (w.heap.size ≤ gb356) := gw_ hg; have GE356 : Aside0 (w.heap.size ≤ gb356) := gw_ hg; replace HB := Aside0.mk (below_step blw hb); clear hb hbox hg) | ((with_reducible refine gc 67 rfl ?_); refine cl_ (some 14) Tryz.func67 (strings_Cut.calls a0 (⟨#[13, 10]⟩ : ByteArray) t357 t358 true _ (Amb.at HG.out blw) A2.out) ?_; rintro w' ⟨nd, rfl⟩; (try (rw [drewN_self w7]; generalize hq_ : World.drewN w7 _ = w7; have n0_ : Aside0 (w7.heap[gb356]? = some (.cells #[.string (⟨#[]⟩ : ByteArray), .string (⟨#[]⟩ : ByteArray), .int .i64 0, .string (⟨#[]⟩ : ByteArray)] 34 (0, 0))) := ⟨by rw [← hq_]; exact (bkw BK356)⟩; have n1_ : Aside0 (Below w.heap.size w w7) := ⟨by rw [← hq_]; exact blw⟩; clear BK356 HB hq_; have BK356 := n0_; have HB := n1_; clear n0_ n1_))) | ((with_reducible refine gc 68 rfl ?_); refine cl_ (some 23) Tryz.func68 (mbox_begun.calls k t357 t360 t361 t362 t363 _ (Amb.at HG.out blw) A4.out) ?_; rintro w8 hb; replace BK356 := Aside0.mk (blk_below (g := gb356) (o := .cells #[.string (⟨#[]⟩ : ByteArray), .string (⟨#[]⟩ : ByteArray), .int .i64 0, .string (⟨#[]⟩ : ByteArray)] 34 (0, 0)) (bkw BK356) hb); replace HB := Aside0.mk (below_step blw hb); (try clear hb)) | ((with_reducible refine gate_dst (N := 7) rfl ?_); refine box_event ?hg (N := 7) ?hd (cs := #[.string (⟨#[]⟩ : ByteArray), .string (⟨#[]⟩ : ByteArray)]) (t := 32) ?hr ?_; (case hd => rfl); (case hg => rfl); (case hr => first | (go_simp; done) | (go_simp; rfl)); intro gb364 hg w9 hbox hb; have BK364 := Aside0.mk (hbox); have GW364 : Aside0 (w.heap.size ≤ gb364) := gw_ hg; have GE364 : Aside0 (w.heap.size ≤ gb364) := gw_ hg; replace HB := Aside0.mk (below_step blw hb); have NB356_364 := Aside0.mk ((by rw [hg]; exact Nat.ne_of_lt (blk_lt (g := gb356) (o := .cells #[.string (⟨#[]⟩ : ByteArray), .string (⟨#[]⟩ : ByteArray), .int .i64 0, .string (⟨#[]⟩ : ByteArray)] 34 (0, 0)) (bkw BK356)) : gb356 ≠ gb364)); have NB364_356 := Aside0.mk ((by rw [hg]; exact Nat.ne_of_gt (blk_lt (g := gb356) (o := .cells #[.string (⟨#[]⟩ : ByteArray), .string (⟨#[]⟩ : ByteArray), .int .i64 0, .string (⟨#[]⟩ : ByteArray)] 34 (0, 0)) (bkw BK356)) : gb364 ≠ gb356)); replace BK356 := Aside0.mk (blk_below (g := gb356) (o := .cells #[.string (⟨#[]⟩ : ByteArray), .string (⟨#[]⟩ : ByteArray), .int .i64 0, .string (⟨#[]⟩ : ByteArray)] 34 (0, 0)) (bkw BK356) hb); clear hb hbox hg; have hnb10 := NB364_356.out; have hnc10 := NB356_364.out; have hcz11_0 : w9.cell? ⟨gb364, 0, none⟩ = some (.string (⟨#[]⟩ : ByteArray)) := bk_ BK364; have hcz11_1 : w9.cell? ⟨gb364, 1, none⟩ = some (.string (⟨#[]⟩ : ByteArray)) := bk_ BK364; have hfz11_0 := blk_frozen BK364.out 0; have hfz11_1 := blk_frozen BK364.out 1) | ((with_reducible refine gc 69 rfl ?_); refine cl_ (some 29) Tryz.func69 (strings_CutSuffix.calls t358 (⟨#[13, 10]⟩ : ByteArray) t365 t366 _ A5.out) ?_; rintro w' ⟨nd, rfl⟩))
 (try simp only [Act.put, List.setIfInBounds_toArray, List.set_cons_zero, List.set_cons_succ])
 go_cut [37] (fun v37 wc => ∃ (kq : Nat) (x37_5 : Bool), v37 = .bool x37_5 ∧ Aside0 (mbox_entry.j0 kq a0 t362 t365 x37_5 t360 t361 = some (r1, r2, r3, r4, r5)) ∧ Aside0 (kq ≤ k) ∧ Aside0 (wc.heap[gb356]? = some (.cells #[.string (⟨#[]⟩ : ByteArray), .string (⟨#[]⟩ : ByteArray), .int .i64 0, .string (⟨#[]⟩ : ByteArray)] 34 (0, 0))) ∧ Aside0 (wc.heap[gb364]? = some (.cells #[.string t360, .string t361] 32 (0, 0))) ∧ Aside0 (Below w.heap.size w wc))
 case first =>
  have H := HC6.out
  clear HC6
  replace H := iteS H; obtain ⟨rfl, H⟩ := H
  have H' := Aside0.mk H
  clear H
  go_wp2
  go_meet
  case rel => exact ⟨_, (!t366), eqs, H', omk, ⟨by (with_reducible repeat (first | refine blk_drewN ?_ _ | refine blk_drew ?_ | refine blk_alloc ?_ _)); refine blk_far ?_ NB356_364.out _; (with_reducible repeat (first | refine blk_drewN ?_ _ | refine blk_drew ?_ | refine blk_alloc ?_ _)); refine blk_far ?_ NB356_364.out _; (with_reducible repeat (first | refine blk_drewN ?_ _ | refine blk_drew ?_ | refine blk_alloc ?_ _)); exact BK356.out⟩, ⟨by (with_reducible repeat (first | refine blk_drewN ?_ _ | refine blk_drew ?_ | refine blk_alloc ?_ _)); refine blk_put (cs := #[.string t360, .string (⟨#[]⟩ : ByteArray)]) ?_ 1 _ rfl; (with_reducible repeat (first | refine blk_drewN ?_ _ | refine blk_drew ?_ | refine blk_alloc ?_ _)); refine blk_put (cs := #[.string (⟨#[]⟩ : ByteArray), .string (⟨#[]⟩ : ByteArray)]) ?_ 0 _ rfl; (with_reducible repeat (first | refine blk_drewN ?_ _ | refine blk_drew ?_ | refine blk_alloc ?_ _)); exact BK364.out⟩, ⟨blw⟩⟩
 case rest =>
  clear HC6
  try clear c1
  try clear p2
  try clear c3
  try clear c4
  try clear c6
  try clear c10
  try clear c12
  try clear hcz11_0 hcz11_1
  try clear hfz11_0 hfz11_1
  obtain ⟨kq, x37_5, rfl, HA, HJ5, BK356, BK364, HB⟩ := hcut
  cases kq with
  | zero => exact absurd HA.out (by simp [mbox_entry.j0])
  | succ kj5 =>
   have H := HA.out
   clear HA
   simp only [mbox_entry.j0] at H
   replace H := iteF H; obtain ⟨rfl, H⟩ := H
   replace H := Option.bind_eq_some_iff.mp H
   obtain ⟨t367, A140, H⟩ := H
   try dsimp only at H
   have A14 := Aside0.mk A140
   clear A140
   replace H := Option.bind_eq_some_iff.mp H
   obtain ⟨t369, A150, H⟩ := H
   try dsimp only at H
   have A15 := Aside0.mk A150
   clear A150
   replace H := iteS H; obtain ⟨rfl, H⟩ := H
   replace H := Option.bind_eq_some_iff.mp H
   obtain ⟨t370, A170, H⟩ := H
   try dsimp only at H
   have A17 := Aside0.mk A170
   clear A170
   simp only [Option.some.injEq, Prod.mk.injEq] at H
   obtain ⟨rfl, rfl, rfl, rfl, rfl⟩ := H
   try go_wp2
   replace BK356 := Aside0.mk (blk_drew BK356.out)
   replace BK364 := Aside0.mk (blk_drew BK364.out)
   replace HB := Aside0.mk (below_drew1 HB.out)
   refine start_ (n := 7) (S := fun w' => w'.cell? ⟨gb364, 0, none⟩ = some (.string t360) ∧ w'.cell? ⟨gb364, 1, none⟩ = some (.string t361)) (ds := []) (ba 7 0) (by kernel_rfl) rfl rfl ⟨bk_ BK364, bk_ BK364⟩ (fun hHeld => ?_)
   generalize wc.drew = w18 at BK356 BK364 HB hHeld ⊢
   refine pure_ (i := 1) (N := some 40) (v := ?_) (a' := ?_) (ba 7 2) rfl rfl (by kernel_rfl) (fun _ _ _ h => h) (Or.inl ⟨by rfl, ?_⟩) ?_ ?_
   rotate_left
   ·intro w'
    go_simp
    with_reducible rfl
   rotate_left
   ·simp only [Act.put, List.setIfInBounds_toArray, List.set_cons_zero, List.set_cons_succ, i64_w, i32_w]
    rfl
   refine pure_ (i := 2) (N := some 41) (v := ?_) (a' := ?_) (ba 7 6) rfl rfl (by kernel_rfl) (fun _ _ _ h => h) (Or.inl ⟨by rfl, ?_⟩) ?_ ?_
   rotate_left
   ·intro w'
    go_simp
    with_reducible rfl
   rotate_left
   ·simp only [Act.put, List.setIfInBounds_toArray, List.set_cons_zero, List.set_cons_succ, i64_w, i32_w]
    rfl
   refine take_ (i := 0) (N := some 39) (v := ?_) (a' := ?_) (ba 7 7) rfl rfl (by kernel_rfl) (fun _ _ _ h => h) (Or.inl ⟨by rfl, ?_⟩) hHeld ?_ ?_
   rotate_left
   ·rintro w' ⟨s0, s1⟩
    go_simp
    with_reducible rfl
   rotate_left
   ·simp only [Act.put, List.setIfInBounds_toArray, List.set_cons_zero, List.set_cons_succ, i64_w, i32_w]
    rfl
   refine join_ (σ := Nat) 1 (ba 7 63) (fun s_ => [(42, .string t367), (11, .pointer (some ⟨s_, 0, none⟩)), (43, .agg #[.string t360, .string t361, .int .i64 t362, .string t367])]) (fun s_ w' => (w'.cell? ⟨gb364, 0, none⟩ = some (.string t360) ∧ w'.cell? ⟨gb364, 1, none⟩ = some (.string t361)) ∧ (w'.heap[gb356]? = some (.cells #[.string (⟨#[]⟩ : ByteArray), .string (⟨#[]⟩ : ByteArray), .int .i64 0, .string (⟨#[]⟩ : ByteArray)] 34 (0, 0))) ∧ (w'.heap[gb364]? = some (.cells #[.string t360, .string t361] 32 (0, 0))) ∧ (w'.heap[s_]? = some (.cells #[.string (⟨#[]⟩ : ByteArray), .string (⟨#[]⟩ : ByteArray), .int .i64 0, .string (⟨#[]⟩ : ByteArray)] 34 (0, 0))) ∧ (w.heap.size ≤ s_) ∧ (w.heap.size ≤ s_) ∧ (gb356 ≠ s_) ∧ (s_ ≠ gb356) ∧ (gb364 ≠ s_) ∧ (s_ ≠ gb364) ∧ (Below w.heap.size w w')) ?_ ?_
   rotate_left
   ·intro hCont
    refine two_ (i := 3) (j := 5) (Ni := some 42) (Nj := some 11) (ba 7 15) (ba 7 39) rfl rfl rfl rfl (by kernel_rfl) (by decide) (by decide) (fun K hK => ?_) (fun K hK => ?_)
    ·skip
     refine go1 Tryz.func12 #[.string t365] ?_
     with_reducible refine (mbox_Unquote.calls t365 t367 _ ?side1 A14.out).mono ?_
     (case side1 => exact Amb.at HG.out blw)
     rintro e w19 ⟨rfl, hb⟩
     refine ⟨_, rfl, ?_⟩
     replace BK356 := Aside0.mk (blk_below (g := gb356) (o := .cells #[.string (⟨#[]⟩ : ByteArray), .string (⟨#[]⟩ : ByteArray), .int .i64 0, .string (⟨#[]⟩ : ByteArray)] 34 (0, 0)) (bkw BK356) hb)
     replace BK364 := Aside0.mk (blk_below (g := gb364) (o := .cells #[.string t360, .string t361] 32 (0, 0)) (bkw BK364) hb)
     replace HB := Aside0.mk (below_step blw hb)
     (try clear hb)
     refine hK.out _ _ ⟨bk_ BK364, bk_ BK364⟩ (fun hHeld => ?_)
     clear hK K
     refine nm_ (some 42) ?_
     refine pure_ (i := 4) (N := some 43) (v := ?_) (a' := ?_) (ba 7 31) rfl rfl (by kernel_rfl) (fun _ _ _ h => h) (Or.inl ⟨by rfl, ?_⟩) ?_ ?_
     rotate_left
     ·intro w'
      go_simp
      with_reducible rfl
     rotate_left
     ·simp only [Act.put, List.setIfInBounds_toArray, List.set_cons_zero, List.set_cons_succ, i64_w, i32_w]
      rfl
     refine one_ (i := 5) (N := some 11) (ba 7 63) rfl rfl (by kernel_rfl) (by decide) (fun K hK => ?_)
     refine box_step ?hg (N := 11) ?hd (cs := #[.string (⟨#[]⟩ : ByteArray), .string (⟨#[]⟩ : ByteArray), .int .i64 0, .string (⟨#[]⟩ : ByteArray)]) (t := 34) ?hr ?_; (case hd => rfl); (case hg => rfl); (case hr => first | (go_simp; done) | (go_simp; rfl))
     intro gb368 hg w20 hbox hb
     have n0_ := Aside0.mk (blk_below (g := gb356) (o := .cells #[.string (⟨#[]⟩ : ByteArray), .string (⟨#[]⟩ : ByteArray), .int .i64 0, .string (⟨#[]⟩ : ByteArray)] 34 (0, 0)) (bkw BK356) hb)
     have n1_ := Aside0.mk (blk_below (g := gb364) (o := .cells #[.string t360, .string t361] 32 (0, 0)) (bkw BK364) hb)
     have n2_ := Aside0.mk (below_step blw hb)
     have n3_ := Aside0.mk (hbox)
     have n4_ := Aside0.mk ((by rw [hg]; exact (below_size blw) : w.heap.size ≤ gb368))
     have n5_ := Aside0.mk ((by rw [hg]; exact (below_size blw) : w.heap.size ≤ gb368))
     have n6_ := Aside0.mk ((by rw [hg]; exact Nat.ne_of_lt (blk_lt (g := gb356) (o := .cells #[.string (⟨#[]⟩ : ByteArray), .string (⟨#[]⟩ : ByteArray), .int .i64 0, .string (⟨#[]⟩ : ByteArray)] 34 (0, 0)) (bkw BK356)) : gb356 ≠ gb368))
     have n7_ := Aside0.mk ((by rw [hg]; exact Nat.ne_of_gt (blk_lt (g := gb356) (o := .cells #[.string (⟨#[]⟩ : ByteArray), .string (⟨#[]⟩ : ByteArray), .int .i64 0, .string (⟨#[]⟩ : ByteArray)] 34 (0, 0)) (bkw BK356)) : gb368 ≠ gb356))
     have n8_ := Aside0.mk ((by rw [hg]; exact Nat.ne_of_lt (blk_lt (g := gb364) (o := .cells #[.string t360, .string t361] 32 (0, 0)) (bkw BK364)) : gb364 ≠ gb368))
     have n9_ := Aside0.mk ((by rw [hg]; exact Nat.ne_of_gt (blk_lt (g := gb364) (o := .cells #[.string t360, .string t361] 32 (0, 0)) (bkw BK364)) : gb368 ≠ gb364))
     clear BK356
     clear BK364
     clear HB
     have BK356 := n0_
     have BK364 := n1_
     have HB := n2_
     have BK368 := n3_
     have GW368 := n4_
     have GE368 := n5_
     have NB356_368 := n6_
     have NB368_356 := n7_
     have NB364_368 := n8_
     have NB368_364 := n9_
     clear n0_ n1_ n2_ n3_ n4_ n5_ n6_ n7_ n8_ n9_
     clear hb hbox hg
     refine hK.out _ _ ⟨bk_ BK364, bk_ BK364⟩ (fun hHeld => ?_)
     clear hK K
     refine nm_ (some 11) ?_
     exact norm_ (by simp only [putAll, Act.put, List.setIfInBounds_toArray, List.set_cons_zero, List.set_cons_succ]) (hCont (gb368) _ ⟨hHeld, (bkw BK356), (bkw BK364), (bkw BK368), GW368.out, GE368.out, NB356_368.out, NB368_356.out, NB364_368.out, NB368_364.out, blw⟩)
    ·skip
     refine box_step ?hg (N := 11) ?hd (cs := #[.string (⟨#[]⟩ : ByteArray), .string (⟨#[]⟩ : ByteArray), .int .i64 0, .string (⟨#[]⟩ : ByteArray)]) (t := 34) ?hr ?_; (case hd => rfl); (case hg => rfl); (case hr => first | (go_simp; done) | (go_simp; rfl))
     intro gb368 hg w19 hbox hb
     have n0_ := Aside0.mk (blk_below (g := gb356) (o := .cells #[.string (⟨#[]⟩ : ByteArray), .string (⟨#[]⟩ : ByteArray), .int .i64 0, .string (⟨#[]⟩ : ByteArray)] 34 (0, 0)) (bkw BK356) hb)
     have n1_ := Aside0.mk (blk_below (g := gb364) (o := .cells #[.string t360, .string t361] 32 (0, 0)) (bkw BK364) hb)
     have n2_ := Aside0.mk (below_step blw hb)
     have n3_ := Aside0.mk (hbox)
     have n4_ := Aside0.mk ((by rw [hg]; exact (below_size blw) : w.heap.size ≤ gb368))
     have n5_ := Aside0.mk ((by rw [hg]; exact (below_size blw) : w.heap.size ≤ gb368))
     have n6_ := Aside0.mk ((by rw [hg]; exact Nat.ne_of_lt (blk_lt (g := gb356) (o := .cells #[.string (⟨#[]⟩ : ByteArray), .string (⟨#[]⟩ : ByteArray), .int .i64 0, .string (⟨#[]⟩ : ByteArray)] 34 (0, 0)) (bkw BK356)) : gb356 ≠ gb368))
     have n7_ := Aside0.mk ((by rw [hg]; exact Nat.ne_of_gt (blk_lt (g := gb356) (o := .cells #[.string (⟨#[]⟩ : ByteArray), .string (⟨#[]⟩ : ByteArray), .int .i64 0, .string (⟨#[]⟩ : ByteArray)] 34 (0, 0)) (bkw BK356)) : gb368 ≠ gb356))
     have n8_ := Aside0.mk ((by rw [hg]; exact Nat.ne_of_lt (blk_lt (g := gb364) (o := .cells #[.string t360, .string t361] 32 (0, 0)) (bkw BK364)) : gb364 ≠ gb368))
     have n9_ := Aside0.mk ((by rw [hg]; exact Nat.ne_of_gt (blk_lt (g := gb364) (o := .cells #[.string t360, .string t361] 32 (0, 0)) (bkw BK364)) : gb368 ≠ gb364))
     clear BK356
     clear BK364
     clear HB
     have BK356 := n0_
     have BK364 := n1_
     have HB := n2_
     have BK368 := n3_
     have GW368 := n4_
     have GE368 := n5_
     have NB356_368 := n6_
     have NB368_356 := n7_
     have NB364_368 := n8_
     have NB368_364 := n9_
     clear n0_ n1_ n2_ n3_ n4_ n5_ n6_ n7_ n8_ n9_
     clear hb hbox hg
     refine hK.out _ _ ⟨bk_ BK364, bk_ BK364⟩ (fun hHeld => ?_)
     clear hK K
     refine nm_ (some 11) ?_
     refine one_ (i := 3) (N := some 42) (ba 7 47) rfl rfl (by kernel_rfl) (by decide) (fun K hK => ?_)
     refine go1 Tryz.func12 #[.string t365] ?_
     with_reducible refine (mbox_Unquote.calls t365 t367 _ ?side1 A14.out).mono ?_
     (case side1 => exact Amb.at HG.out blw)
     rintro e w20 ⟨rfl, hb⟩
     refine ⟨_, rfl, ?_⟩
     replace BK356 := Aside0.mk (blk_below (g := gb356) (o := .cells #[.string (⟨#[]⟩ : ByteArray), .string (⟨#[]⟩ : ByteArray), .int .i64 0, .string (⟨#[]⟩ : ByteArray)] 34 (0, 0)) (bkw BK356) hb)
     replace BK364 := Aside0.mk (blk_below (g := gb364) (o := .cells #[.string t360, .string t361] 32 (0, 0)) (bkw BK364) hb)
     replace BK368 := Aside0.mk (blk_below (g := gb368) (o := .cells #[.string (⟨#[]⟩ : ByteArray), .string (⟨#[]⟩ : ByteArray), .int .i64 0, .string (⟨#[]⟩ : ByteArray)] 34 (0, 0)) (bkw BK368) hb)
     replace HB := Aside0.mk (below_step blw hb)
     (try clear hb)
     refine hK.out _ _ ⟨bk_ BK364, bk_ BK364⟩ (fun hHeld => ?_)
     clear hK K
     refine nm_ (some 42) ?_
     refine pure_ (i := 4) (N := some 43) (v := ?_) (a' := ?_) (ba 7 63) rfl rfl (by kernel_rfl) (fun _ _ _ h => h) (Or.inl ⟨by rfl, ?_⟩) ?_ ?_
     rotate_left
     ·intro w'
      go_simp
      with_reducible rfl
     rotate_left
     ·simp only [Act.put, List.setIfInBounds_toArray, List.set_cons_zero, List.set_cons_succ, i64_w, i32_w]
      rfl
     exact norm_ (by simp only [putAll, Act.put, List.setIfInBounds_toArray, List.set_cons_zero, List.set_cons_succ]) (hCont (gb368) _ ⟨hHeld, (bkw BK356), (bkw BK364), (bkw BK368), GW368.out, GE368.out, NB356_368.out, NB368_356.out, NB364_368.out, NB368_364.out, blw⟩)
   rintro gb368 w21 ⟨hS_, h0_, h1_, h2_, h3_, h4_, h5_, h6_, h7_, h8_, h9_⟩
   have n0_ : Aside0 (w21.heap[gb356]? = some (.cells #[.string (⟨#[]⟩ : ByteArray), .string (⟨#[]⟩ : ByteArray), .int .i64 0, .string (⟨#[]⟩ : ByteArray)] 34 (0, 0))) := ⟨h0_⟩
   have n1_ : Aside0 (w21.heap[gb364]? = some (.cells #[.string t360, .string t361] 32 (0, 0))) := ⟨h1_⟩
   have n2_ : Aside0 (w21.heap[gb368]? = some (.cells #[.string (⟨#[]⟩ : ByteArray), .string (⟨#[]⟩ : ByteArray), .int .i64 0, .string (⟨#[]⟩ : ByteArray)] 34 (0, 0))) := ⟨h2_⟩
   have n3_ : Aside0 (w.heap.size ≤ gb368) := ⟨h3_⟩
   have n4_ : Aside0 (w.heap.size ≤ gb368) := ⟨h4_⟩
   have n5_ : Aside0 (gb356 ≠ gb368) := ⟨h5_⟩
   have n6_ : Aside0 (gb368 ≠ gb356) := ⟨h6_⟩
   have n7_ : Aside0 (gb364 ≠ gb368) := ⟨h7_⟩
   have n8_ : Aside0 (gb368 ≠ gb364) := ⟨h8_⟩
   have n9_ : Aside0 (Below w.heap.size w w21) := ⟨h9_⟩
   clear BK356
   clear BK364
   clear HB
   clear h0_ h1_ h2_ h3_ h4_ h5_ h6_ h7_ h8_ h9_
   have BK356 := n0_
   have BK364 := n1_
   have BK368 := n2_
   have GW368 := n3_
   have GE368 := n4_
   have NB356_368 := n5_
   have NB368_356 := n6_
   have NB364_368 := n7_
   have NB368_364 := n8_
   have HB := n9_
   clear n0_ n1_ n2_ n3_ n4_ n5_ n6_ n7_ n8_ n9_
   have hHeld : w21.cell? ⟨gb364, 0, none⟩ = some (.string t360) ∧ w21.cell? ⟨gb364, 1, none⟩ = some (.string t361) := hS_
   refine norm_ (a' := ?_) ?_ ?_
   rotate_left
   ·simp only [putAll, Act.put, List.setIfInBounds_toArray, List.set_cons_zero, List.set_cons_succ]
    rfl
   refine one_ (i := 6) (N := none) (ba 7 127) rfl rfl (by kernel_rfl) (by decide) (fun K hK => ?_)
   have hs22 : w21.cell? ⟨gb368, 0, none⟩ = some (.string (⟨#[]⟩ : ByteArray)) := bk_ BK368
   have hfs22 := blk_frozen BK368.out 0
   have hns22_0 := NB356_368.out
   have hns22_1 := NB364_368.out
   have hms22_0 := NB368_356.out
   have hms22_1 := NB368_364.out
   have hs23 : w21.cell? ⟨gb368, 1, none⟩ = some (.string (⟨#[]⟩ : ByteArray)) := bk_ BK368
   have hfs23 := blk_frozen BK368.out 1
   have hns23_0 := NB356_368.out
   have hns23_1 := NB364_368.out
   have hms23_0 := NB368_356.out
   have hms23_1 := NB368_364.out
   have hs24 : w21.cell? ⟨gb368, 2, none⟩ = some (.int .i64 0) := bk_ BK368
   have hfs24 := blk_frozen BK368.out 2
   have hns24_0 := NB356_368.out
   have hns24_1 := NB364_368.out
   have hms24_0 := NB368_356.out
   have hms24_1 := NB368_364.out
   have hs25 : w21.cell? ⟨gb368, 3, none⟩ = some (.string (⟨#[]⟩ : ByteArray)) := bk_ BK368
   have hfs25 := blk_frozen BK368.out 3
   have hns25_0 := NB356_368.out
   have hns25_1 := NB364_368.out
   have hms25_0 := NB368_356.out
   have hms25_1 := NB368_364.out
   refine skip_ (w1 := ?_) (by rfl) rfl ?_ ?_
   rotate_left
   ·go_simp
    rfl
   refine hK.out _ _ ⟨((cell_far (p := ⟨gb368, _, none⟩) NB364_368.out _).trans (((cell_far (p := ⟨gb368, _, none⟩) NB364_368.out _).trans (((cell_far (p := ⟨gb368, _, none⟩) NB364_368.out _).trans (((cell_far (p := ⟨gb368, _, none⟩) NB364_368.out _).trans (hHeld.1)))))))), ((cell_far (p := ⟨gb368, _, none⟩) NB364_368.out _).trans (((cell_far (p := ⟨gb368, _, none⟩) NB364_368.out _).trans (((cell_far (p := ⟨gb368, _, none⟩) NB364_368.out _).trans (((cell_far (p := ⟨gb368, _, none⟩) NB364_368.out _).trans (hHeld.2))))))))⟩ (fun hHeld => ?_)
   clear hK K
   refine done_ (by kernel_rfl) ?_
   try go_wp2
   have n0_ : Aside0 (((((w21.setCell ⟨gb368, 0, none⟩ (.string t360)).setCell ⟨gb368, 1, none⟩ (.string t361)).setCell ⟨gb368, 2, none⟩ (.int .i64 t362)).setCell ⟨gb368, 3, none⟩ (.string t367)).heap[gb356]? = some (.cells #[.string (⟨#[]⟩ : ByteArray), .string (⟨#[]⟩ : ByteArray), .int .i64 0, .string (⟨#[]⟩ : ByteArray)] 34 (0, 0))) := ⟨by (with_reducible repeat (first | refine blk_drewN ?_ _ | refine blk_drew ?_ | refine blk_alloc ?_ _)); refine blk_far ?_ NB356_368.out _; (with_reducible repeat (first | refine blk_drewN ?_ _ | refine blk_drew ?_ | refine blk_alloc ?_ _)); refine blk_far ?_ NB356_368.out _; (with_reducible repeat (first | refine blk_drewN ?_ _ | refine blk_drew ?_ | refine blk_alloc ?_ _)); refine blk_far ?_ NB356_368.out _; (with_reducible repeat (first | refine blk_drewN ?_ _ | refine blk_drew ?_ | refine blk_alloc ?_ _)); refine blk_far ?_ NB356_368.out _; (with_reducible repeat (first | refine blk_drewN ?_ _ | refine blk_drew ?_ | refine blk_alloc ?_ _)); exact BK356.out⟩
   have n1_ : Aside0 (((((w21.setCell ⟨gb368, 0, none⟩ (.string t360)).setCell ⟨gb368, 1, none⟩ (.string t361)).setCell ⟨gb368, 2, none⟩ (.int .i64 t362)).setCell ⟨gb368, 3, none⟩ (.string t367)).heap[gb364]? = some (.cells #[.string t360, .string t361] 32 (0, 0))) := ⟨by (with_reducible repeat (first | refine blk_drewN ?_ _ | refine blk_drew ?_ | refine blk_alloc ?_ _)); refine blk_far ?_ NB364_368.out _; (with_reducible repeat (first | refine blk_drewN ?_ _ | refine blk_drew ?_ | refine blk_alloc ?_ _)); refine blk_far ?_ NB364_368.out _; (with_reducible repeat (first | refine blk_drewN ?_ _ | refine blk_drew ?_ | refine blk_alloc ?_ _)); refine blk_far ?_ NB364_368.out _; (with_reducible repeat (first | refine blk_drewN ?_ _ | refine blk_drew ?_ | refine blk_alloc ?_ _)); refine blk_far ?_ NB364_368.out _; (with_reducible repeat (first | refine blk_drewN ?_ _ | refine blk_drew ?_ | refine blk_alloc ?_ _)); exact BK364.out⟩
   have n2_ : Aside0 (((((w21.setCell ⟨gb368, 0, none⟩ (.string t360)).setCell ⟨gb368, 1, none⟩ (.string t361)).setCell ⟨gb368, 2, none⟩ (.int .i64 t362)).setCell ⟨gb368, 3, none⟩ (.string t367)).heap[gb368]? = some (.cells #[.string t360, .string t361, .int .i64 t362, .string t367] 34 (0, 0))) := ⟨by (with_reducible repeat (first | refine blk_drewN ?_ _ | refine blk_drew ?_ | refine blk_alloc ?_ _)); refine blk_put (cs := #[.string t360, .string t361, .int .i64 t362, .string (⟨#[]⟩ : ByteArray)]) ?_ 3 _ rfl; (with_reducible repeat (first | refine blk_drewN ?_ _ | refine blk_drew ?_ | refine blk_alloc ?_ _)); refine blk_put (cs := #[.string t360, .string t361, .int .i64 0, .string (⟨#[]⟩ : ByteArray)]) ?_ 2 _ rfl; (with_reducible repeat (first | refine blk_drewN ?_ _ | refine blk_drew ?_ | refine blk_alloc ?_ _)); refine blk_put (cs := #[.string t360, .string (⟨#[]⟩ : ByteArray), .int .i64 0, .string (⟨#[]⟩ : ByteArray)]) ?_ 1 _ rfl; (with_reducible repeat (first | refine blk_drewN ?_ _ | refine blk_drew ?_ | refine blk_alloc ?_ _)); refine blk_put (cs := #[.string (⟨#[]⟩ : ByteArray), .string (⟨#[]⟩ : ByteArray), .int .i64 0, .string (⟨#[]⟩ : ByteArray)]) ?_ 0 _ rfl; (with_reducible repeat (first | refine blk_drewN ?_ _ | refine blk_drew ?_ | refine blk_alloc ?_ _)); exact BK368.out⟩
   have n3_ : Aside0 (Below w.heap.size w ((((w21.setCell ⟨gb368, 0, none⟩ (.string t360)).setCell ⟨gb368, 1, none⟩ (.string t361)).setCell ⟨gb368, 2, none⟩ (.int .i64 t362)).setCell ⟨gb368, 3, none⟩ (.string t367))) := ⟨blw⟩
   (try clear BK356)
   (try clear BK364)
   (try clear BK368)
   (try clear HB)
   generalize ((((w21.setCell ⟨gb368, 0, none⟩ (.string t360)).setCell ⟨gb368, 1, none⟩ (.string t361)).setCell ⟨gb368, 2, none⟩ (.int .i64 t362)).setCell ⟨gb368, 3, none⟩ (.string t367)) = w26 at n0_ n1_ n2_ n3_ ⊢
   have BK356 := n0_
   have BK364 := n1_
   have BK368 := n2_
   have HB := n3_
   clear n0_ n1_ n2_ n3_
   replace BK356 := Aside0.mk (blk_drew BK356.out)
   replace BK364 := Aside0.mk (blk_drew BK364.out)
   replace BK368 := Aside0.mk (blk_drew BK368.out)
   replace HB := Aside0.mk (below_drew1 HB.out)
   refine start_ (n := 11) (S := fun w' => w'.cell? ⟨gb368, 0, none⟩ = some (.string t360) ∧ w'.cell? ⟨gb368, 1, none⟩ = some (.string t361) ∧ w'.cell? ⟨gb368, 2, none⟩ = some (.int .i64 t362) ∧ w'.cell? ⟨gb368, 3, none⟩ = some (.string t367)) (ds := []) (ba 11 0) (by kernel_rfl) rfl rfl ⟨bk_ BK368, bk_ BK368, bk_ BK368, bk_ BK368⟩ (fun hHeld => ?_); refine with_tabW mbox_entry.tab9 mbox_entry.bits9 (fun HT_ HW_ => ?_)
   generalize w26.drew = w27 at BK356 BK364 BK368 HB hHeld ⊢
   refine tk_ 0 44 1 hHeld ?_
   refine tk_ 1 45 3 hHeld ?_
   refine one1 2 (some 46) 7 (fun K hK => ?_)
   refine go1 Tryz.func18 #[.agg #[.string t360, .string t361, .int .i64 t362, .string t367]] ?_
   with_reducible refine (mbox_Right.calls kj5 t360 t361 t362 t367 true _ A15.out).mono ?_
   rintro e w28 ⟨rfl, hb⟩
   refine ⟨_, rfl, ?_⟩
   replace BK356 := Aside0.mk (blk_below (g := gb356) (o := .cells #[.string (⟨#[]⟩ : ByteArray), .string (⟨#[]⟩ : ByteArray), .int .i64 0, .string (⟨#[]⟩ : ByteArray)] 34 (0, 0)) (bkw BK356) hb)
   replace BK364 := Aside0.mk (blk_below (g := gb364) (o := .cells #[.string t360, .string t361] 32 (0, 0)) (bkw BK364) hb)
   replace BK368 := Aside0.mk (blk_below (g := gb368) (o := .cells #[.string t360, .string t361, .int .i64 t362, .string t367] 34 (0, 0)) (bkw BK368) hb)
   replace HB := Aside0.mk (below_step blw hb)
   (try clear hb)
   refine hK.out _ _ ⟨bk_ BK368, bk_ BK368, bk_ BK368, bk_ BK368⟩ (fun hHeld => ?_)
   clear hK K
   refine nm_ (some 46) ?_
   refine pu_ 3 47 15 ?_
   refine pu_ 6 50 79 ?_
   refine tk_ 4 48 95 hHeld ?_
   refine one1 5 (some 49) 127 (fun K hK => ?_)
   refine go1 Tryz.func15 #[.agg #[.string t360, .string t361, .int .i64 t362, .string t367]] ?_
   with_reducible refine (mbox_Entry.calls kj5 t360 t361 t362 t367 t370 _ ?side1 A17.out).mono ?_
   (case side1 => exact Amb.at HG.out blw)
   rintro e w29 ⟨rfl, hb⟩
   refine ⟨_, rfl, ?_⟩
   replace BK356 := Aside0.mk (blk_below (g := gb356) (o := .cells #[.string (⟨#[]⟩ : ByteArray), .string (⟨#[]⟩ : ByteArray), .int .i64 0, .string (⟨#[]⟩ : ByteArray)] 34 (0, 0)) (bkw BK356) hb)
   replace BK364 := Aside0.mk (blk_below (g := gb364) (o := .cells #[.string t360, .string t361] 32 (0, 0)) (bkw BK364) hb)
   replace BK368 := Aside0.mk (blk_below (g := gb368) (o := .cells #[.string t360, .string t361, .int .i64 t362, .string t367] 34 (0, 0)) (bkw BK368) hb)
   replace HB := Aside0.mk (below_step blw hb)
   (try clear hb)
   refine hK.out _ _ ⟨bk_ BK368, bk_ BK368, bk_ BK368, bk_ BK368⟩ (fun hHeld => ?_)
   clear hK K
   refine nm_ (some 49) ?_
   refine pu_ 7 51 255 ?_
   refine pu_ 8 52 511 ?_
   refine one1 9 none 1023 (fun K hK => ?_)
   have hs30 : w29.cell? ⟨gb356, 0, none⟩ = some (.string (⟨#[]⟩ : ByteArray)) := bk_ BK356
   have hfs30 := blk_frozen BK356.out 0
   have hns30_1 := NB364_356.out
   have hns30_2 := NB368_356.out
   have hms30_1 := NB356_364.out
   have hms30_2 := NB356_368.out
   have hs31 : w29.cell? ⟨gb356, 1, none⟩ = some (.string (⟨#[]⟩ : ByteArray)) := bk_ BK356
   have hfs31 := blk_frozen BK356.out 1
   have hns31_1 := NB364_356.out
   have hns31_2 := NB368_356.out
   have hms31_1 := NB356_364.out
   have hms31_2 := NB356_368.out
   have hs32 : w29.cell? ⟨gb356, 2, none⟩ = some (.int .i64 0) := bk_ BK356
   have hfs32 := blk_frozen BK356.out 2
   have hns32_1 := NB364_356.out
   have hns32_2 := NB368_356.out
   have hms32_1 := NB356_364.out
   have hms32_2 := NB356_368.out
   have hs33 : w29.cell? ⟨gb356, 3, none⟩ = some (.string (⟨#[]⟩ : ByteArray)) := bk_ BK356
   have hfs33 := blk_frozen BK356.out 3
   have hns33_1 := NB364_356.out
   have hns33_2 := NB368_356.out
   have hms33_1 := NB356_364.out
   have hms33_2 := NB356_368.out
   refine skip_ (w1 := ?_) (by rfl) rfl ?_ ?_
   rotate_left
   ·go_simp
    rfl
   refine hK.out _ _ ⟨((cell_far (p := ⟨gb356, _, none⟩) NB368_356.out _).trans (((cell_far (p := ⟨gb356, _, none⟩) NB368_356.out _).trans (((cell_far (p := ⟨gb356, _, none⟩) NB368_356.out _).trans (((cell_far (p := ⟨gb356, _, none⟩) NB368_356.out _).trans (hHeld.1)))))))), ((cell_far (p := ⟨gb356, _, none⟩) NB368_356.out _).trans (((cell_far (p := ⟨gb356, _, none⟩) NB368_356.out _).trans (((cell_far (p := ⟨gb356, _, none⟩) NB368_356.out _).trans (((cell_far (p := ⟨gb356, _, none⟩) NB368_356.out _).trans (hHeld.2.1)))))))), ((cell_far (p := ⟨gb356, _, none⟩) NB368_356.out _).trans (((cell_far (p := ⟨gb356, _, none⟩) NB368_356.out _).trans (((cell_far (p := ⟨gb356, _, none⟩) NB368_356.out _).trans (((cell_far (p := ⟨gb356, _, none⟩) NB368_356.out _).trans (hHeld.2.2.1)))))))), ((cell_far (p := ⟨gb356, _, none⟩) NB368_356.out _).trans (((cell_far (p := ⟨gb356, _, none⟩) NB368_356.out _).trans (((cell_far (p := ⟨gb356, _, none⟩) NB368_356.out _).trans (((cell_far (p := ⟨gb356, _, none⟩) NB368_356.out _).trans (hHeld.2.2.2))))))))⟩ (fun hHeld => ?_)
   clear hK K
   refine pu_ 10 3 2047 ?_
   refine done_ (done_of HT_.out (by kernel_rfl)) ?_
   try go_wp2
   refine bodyPost_ret (results_ct rfl _ _ gb356 34 #[.string t360, .string t361, .int .i64 t362, .string t367] (0, 0) _ rfl (by (with_reducible repeat (first | refine blk_drewN ?_ _ | refine blk_drew ?_ | refine blk_alloc ?_ _)); refine blk_put (cs := #[.string t360, .string t361, .int .i64 t362, .string (⟨#[]⟩ : ByteArray)]) ?_ 3 _ rfl; (with_reducible repeat (first | refine blk_drewN ?_ _ | refine blk_drew ?_ | refine blk_alloc ?_ _)); refine blk_put (cs := #[.string t360, .string t361, .int .i64 0, .string (⟨#[]⟩ : ByteArray)]) ?_ 2 _ rfl; (with_reducible repeat (first | refine blk_drewN ?_ _ | refine blk_drew ?_ | refine blk_alloc ?_ _)); refine blk_put (cs := #[.string t360, .string (⟨#[]⟩ : ByteArray), .int .i64 0, .string (⟨#[]⟩ : ByteArray)]) ?_ 1 _ rfl; (with_reducible repeat (first | refine blk_drewN ?_ _ | refine blk_drew ?_ | refine blk_alloc ?_ _)); refine blk_put (cs := #[.string (⟨#[]⟩ : ByteArray), .string (⟨#[]⟩ : ByteArray), .int .i64 0, .string (⟨#[]⟩ : ByteArray)]) ?_ 0 _ rfl; (with_reducible repeat (first | refine blk_drewN ?_ _ | refine blk_drew ?_ | refine blk_alloc ?_ _)); exact BK356.out) Tryz.underlying34 rfl (by kernel_rfl)) rfl ?_
   exact ⟨by first | rfl | (simp [errW_none, errW_some] <;> rfl) | (simp [*, errW_none, errW_some] <;> rfl), blw⟩

/-! ### mbox_Split: function 20 -/
def mbox_Split.l0 : Nat → ByteArray → List (S34) → Option ((List (S34)) × Int)
  | 0, _, _ => none
  | k + 1, x0, x4 => if x0.toList = ([] : List UInt8) then (some (x4, 0)) else ((mbox_cut.f x0).bind fun t371 => (if 0 ≤ t371 then (if t371 ≤ (x0.size : Int) then ((mbox_entry.f k (x0.extract 0 (t371 : Int).toNat)).bind fun bt372 => (if bt372.2.2.2.2 = true then (if x4.length < 2513169434916 then (mbox_Split.l0 k (x0.extract (t371 : Int).toNat x0.size) (x4 ++ [(⟨(⟨bt372.1, bt372.2.1⟩ : S32), bt372.2.2.1, bt372.2.2.2.1⟩ : S34)])) else (none)) else (none))) else (none)) else (none)))
def mbox_Split.f (k : Nat) (a0 : ByteArray) : Option ((List (S34)) × Int) := mbox_Split.l0 k a0 ([] : List (S34))
theorem mbox_Split.mono_l : ∀ k, (∀ y0 y1, LeO (mbox_Split.l0 k y0 y1) (mbox_Split.l0 (k + 1) y0 y1))
  | 0 => fun _ _ r h => by simp [mbox_Split.l0] at h
  | k + 1 => by
    have ih0 := mbox_Split.mono_l k
    · intro y0 y1
      unfold mbox_Split.l0
      repeat' first | (with_reducible first | exact ih0 _ _ | exact mbox_entry.mono _ _ | exact LeO.refl _ | exact LeO.none _ | refine LeO.ite ?_ ?_ | refine LeO.bind ?_ (fun _ => ?_)) | exact ih0 _ _ | exact mbox_entry.mono _ _ | exact LeO.none _ | refine LeO.ite ?_ ?_ | refine LeO.bind ?_ (fun _ => ?_)
theorem mbox_Split.mono : ∀ a0 k, LeO (mbox_Split.f k a0) (mbox_Split.f (k + 1) a0) := by
  intro a0 k
  have ih0 := mbox_Split.mono_l k
  unfold mbox_Split.f
  repeat' first | (with_reducible first | exact ih0 _ _ | exact mbox_entry.mono _ _ | exact LeO.refl _ | exact LeO.none _ | refine LeO.ite ?_ ?_ | refine LeO.bind ?_ (fun _ => ?_)) | exact ih0 _ _ | exact mbox_entry.mono _ _ | exact LeO.none _ | refine LeO.ite ?_ ?_ | refine LeO.bind ?_ (fun _ => ?_)
set_option maxHeartbeats 8000000 in
set_option maxRecDepth 100000 in
theorem mbox_Split.calls (k : Nat) (a0 : ByteArray) (r1 : List (S34)) (r2 : Int) (w : World) (hG : Amb w) (h : mbox_Split.f k a0 = some (r1, r2)) :
    Calls Tryz.prog 20 #[.string a0] w fun e w' => ∃ v0_ : Value, e = .returned (.tuple #[v0_, .int .i64 r2]) ∧ Kd.R k34 34 w' w.heap.size (fun _ => True) v0_ r1 ∧ Below w.heap.size w w' := by
 have hu34 := Tryz.underlying34
 have HB := Aside0.mk (Below.refl w.heap.size w)
 unfold mbox_Split.f at h
 have H := h
 clear h
 have HG := Aside0.mk hG
 clear hG
 have H' := Aside0.mk H
 clear H
 go_enter Tryz.func20, Tryz.ntmps20
 go_wp2
 go_loopg [0, 4] k (fun kq v0 v4 w' => ∃ (x0_1 : ByteArray) (x4_1 : List (S34)), v0 = .string x0_1 ∧ Aside0 (mbox_Split.l0 kq x0_1 x4_1 = some (r1, r2)) ∧ Aside0 (kq ≤ k) ∧ Aside0 (Kd.R k34 34 w' w.heap.size (fun _ => True) v4 x4_1) ∧ Aside0 (Below w.heap.size w w'))
 case atStart => exact ⟨(a0), (([] : List (S34))), (by first | rfl | (simp; done) | (simp [*]; done) | (simp; exact (by intro l_; cases l_ <;> rfl : ∀ l_ : List UInt8, l_.isEmpty = !(l_ != [])) _)), H', ⟨Nat.le_refl _⟩, ⟨by first | exact Kd.R_nil _ _ _ _ _ | exact Kd.N_nil _ _ _ _ _ | exact Kd.V_nil _ _ _ _ _ | exact Kd.Q_nil _ _ _ _ _ | exact Kd.S_nil _ _ _ _ _⟩, ⟨blw⟩⟩
 case round =>
  clear H'
  obtain ⟨x0_1, x4_1, rfl, HA, HK1, HO_4, HB⟩ := hrel
  cases gk with
  | zero => exact absurd HA.out (by simp [mbox_Split.l0])
  | succ k1 =>
   have H := HA.out
   clear HA
   simp only [mbox_Split.l0] at H
   by_cases c2 : x0_1.toList = ([] : List UInt8)
   ·rw [if_pos c2] at H
    have c2b0 := beq_iff_eq.mpr c2
    have c2b1 := bne_eq_false_iff_eq.mpr c2
    clear c2
    simp only [Option.some.injEq, Prod.mk.injEq] at H
    obtain ⟨rfl, rfl⟩ := H
    go_wp2
    go_ret2
    exact ⟨_, by first | rfl | (simp [errW_none, errW_some] <;> rfl) | (simp [*, errW_none, errW_some] <;> rfl), by (with_reducible repeat (first | apply Kd.R_alloc | apply Kd.R_drewN | apply Kd.R_drew)); exact HO_4.out, blw⟩
   ·rw [if_neg c2] at H
    have c2b0 := beq_eq_false_iff_ne.mpr c2
    have c2b1 := bne_iff_ne.mpr c2
    replace H := Option.bind_eq_some_iff.mp H
    obtain ⟨t371, A30, H⟩ := H
    try dsimp only at H
    have A3 := Aside0.mk A30
    clear A30
    obtain ⟨c4, H⟩ := iteS H
    have c4b0 := eq_true c4
    have c4b1 := decide_eq_true c4
    clear c4
    obtain ⟨c5, H⟩ := iteS H
    have c5b0 := eq_true c5
    have c5b1 := decide_eq_true c5
    clear c5
    replace H := Option.bind_eq_some_iff.mp H
    obtain ⟨⟨t372, t373, t374, t375, t376⟩, A60, H⟩ := H
    try dsimp only at H
    have A6 := Aside0.mk A60
    clear A60
    replace H := iteS H; obtain ⟨rfl, H⟩ := H
    obtain ⟨c8, H⟩ := iteS H
    have LMc8 := Aside0.mk c8
    clear c8
    obtain ⟨y378, hy378⟩ : ∃ y_ : List (S34), y_ = (x4_1 ++ [(⟨(⟨t372, t373⟩ : S32), t374, t375⟩ : S34)]) := ⟨_, rfl⟩
    replace H : (mbox_Split.l0 k1 (x0_1.extract (t371 : Int).toNat x0_1.size) y378) = some (r1, r2) := by first | (rw [hy378]; with_reducible exact H) | (have H2_ := (Option.bind_some _ _).symm.trans H; rw [hy378]; with_reducible exact H2_) | (have H2_ := (Option.bind_some _ _).symm.trans H; with_reducible exact H2_) | with_reducible exact H | (rw [hy378]; exact H) | exact H
    have Ny378 := Aside0.mk hy378
    clear hy378
    have c9b0 := eq_true (od_ : 0 ≤ t371)
    have c10b0 := eq_true (od_ : t371 ≤ (x0_1.size : Int))
    have H' := Aside0.mk H
    clear H
    go_wp2_with (first | ((with_reducible refine gc 40 rfl ?_); refine cl_ (some 11) Tryz.func40 (mbox_cut.calls x0_1 t371 _ (Amb.at HG.out blw) A3.out) ?_; rintro w' ⟨nd, rfl⟩; (try (rw [drewN_self wr]; generalize hq_ : World.drewN wr _ = wr; have n0_ : Aside0 (Kd.R k34 34 wr w.heap.size (fun _ => True) u4 x4_1) := ⟨by rw [← hq_]; exact (by (with_reducible repeat (first | apply Kd.R_alloc | apply Kd.R_drewN | apply Kd.R_drew)); exact HO_4.out)⟩; have n1_ : Aside0 (Below w.heap.size w wr) := ⟨by rw [← hq_]; exact blw⟩; clear HO_4 HB hq_; have HO_4 := n0_; have HB := n1_; clear n0_ n1_))) | ((with_reducible refine gc 41 rfl ?_); refine cl_ (some 16) Tryz.func41 (mbox_entry.calls k1 (x0_1.extract 0 (t371 : Int).toNat) t372 t373 t374 t375 true _ (Amb.at HG.out blw) A6.out) ?_; rintro w11 hb; replace HO_4 := Aside0.mk (Kd.R_below (by (with_reducible repeat (first | apply Kd.R_alloc | apply Kd.R_drewN | apply Kd.R_drew)); exact HO_4.out) hb); replace HB := Aside0.mk (below_step blw hb); (try clear hb)) | ((with_reducible refine gate_dst (N := 6) rfl ?_); refine box_event ?hg (N := 6) ?hd (cs := #[.string (⟨#[]⟩ : ByteArray), .string (⟨#[]⟩ : ByteArray), .int .i64 0, .string (⟨#[]⟩ : ByteArray)]) (t := 34) ?hr ?_; (case hd => rfl); (case hg => rfl); (case hr => first | (go_simp; done) | (go_simp; rfl)); intro gb377 hg w12 hbox hb; replace HO_4 := Aside0.mk (Kd.R_below (Kd.R_elderB (by (with_reducible repeat (first | apply Kd.R_alloc | apply Kd.R_drewN | apply Kd.R_drew)); exact HO_4.out) gb377 (Nat.le_of_eq hg.symm)) hb); have BK377 := Aside0.mk (hbox); have GW377 : Aside0 (w.heap.size ≤ gb377) := gw_ hg; have GE377 : Aside0 (w.heap.size ≤ gb377) := gw_ hg; replace HB := Aside0.mk (below_step blw hb); clear hb hbox hg; have hcz13_0 : w12.cell? ⟨gb377, 0, none⟩ = some (.string (⟨#[]⟩ : ByteArray)) := bk_ BK377; have hcz13_1 : w12.cell? ⟨gb377, 1, none⟩ = some (.string (⟨#[]⟩ : ByteArray)) := bk_ BK377; have hcz13_2 : w12.cell? ⟨gb377, 2, none⟩ = some (.int .i64 0) := bk_ BK377; have hcz13_3 : w12.cell? ⟨gb377, 3, none⟩ = some (.string (⟨#[]⟩ : ByteArray)) := bk_ BK377; have hfz13_0 := blk_frozen BK377.out 0; have hfz13_1 := blk_frozen BK377.out 1; have hfz13_2 := blk_frozen BK377.out 2; have hfz13_3 := blk_frozen BK377.out 3) | ((with_reducible refine gate_builtin (b := .append) (xs := #[.tmp 21, .tmp 23]) rfl ?_); at_builtin; refine Kd.R_append k34 (w0 := w) w.heap.size rfl (.tmp 21) (.tmp 23) 39 34 (.agg #[(.string ⟨#[]⟩), (.string ⟨#[]⟩), (.int .i64 0), (.string ⟨#[]⟩)]) 56 rfl Tryz.underlying39 info34 rfl (by decide) (by omega) u4 x4_1 (⟨(⟨t372, t373⟩ : S32), t374, t375⟩ : S34) [.string t372, .string t373, .int .i64 t374, .string t375] (fun k_ => k_ ≠ gb377) (fun _ => False) rfl (by first | (go_simp; done) | (go_simp; rfl)) ?aP (fun _ hk => hk.elim) ?aF ?aO ?aB ?aS ?aL ?_; (case aP => exact k34_mkM _ _ _ (⟨(⟨t372, t373⟩ : S32), t374, t375⟩ : S34)); (case aB => exact blw); (case aF => exact (fun k_ hk => Kd.freshB (g := gb377) (o := .cells #[.string t372, .string t373, .int .i64 t374, .string t375] 34 (0, 0)) (by (with_reducible repeat (first | refine blk_drewN ?_ _ | refine blk_drew ?_ | refine blk_alloc ?_ _)); refine blk_put (cs := #[.string t372, .string t373, .int .i64 t374, .string (⟨#[]⟩ : ByteArray)]) ?_ 3 _ rfl; (with_reducible repeat (first | refine blk_drewN ?_ _ | refine blk_drew ?_ | refine blk_alloc ?_ _)); refine blk_put (cs := #[.string t372, .string t373, .int .i64 0, .string (⟨#[]⟩ : ByteArray)]) ?_ 2 _ rfl; (with_reducible repeat (first | refine blk_drewN ?_ _ | refine blk_drew ?_ | refine blk_alloc ?_ _)); refine blk_put (cs := #[.string t372, .string (⟨#[]⟩ : ByteArray), .int .i64 0, .string (⟨#[]⟩ : ByteArray)]) ?_ 1 _ rfl; (with_reducible repeat (first | refine blk_drewN ?_ _ | refine blk_drew ?_ | refine blk_alloc ?_ _)); refine blk_put (cs := #[.string (⟨#[]⟩ : ByteArray), .string (⟨#[]⟩ : ByteArray), .int .i64 0, .string (⟨#[]⟩ : ByteArray)]) ?_ 0 _ rfl; (with_reducible repeat (first | refine blk_drewN ?_ _ | refine blk_drew ?_ | refine blk_alloc ?_ _)); exact BK377.out) k_ hk)); (case aO => exact (by (with_reducible repeat (first | apply Kd.R_alloc | apply Kd.R_drewN | apply Kd.R_drew)); exact Kd.R_mono (Kd.R_far (p := ⟨gb377, 3, none⟩) (Kd.R_far (p := ⟨gb377, 2, none⟩) (Kd.R_far (p := ⟨gb377, 1, none⟩) (Kd.R_far (p := ⟨gb377, 0, none⟩) (Kd.R_mono HO_4.out (fun k_ hk => (⟨hk, hk.2⟩ : _ ∧ k_ ≠ gb377))) (fun _ hk => hk.2) (.string t372)) (fun _ hk => hk.2) (.string t373)) (fun _ hk => hk.2) (.int .i64 t374)) (fun _ hk => hk.2) (.string t375)) (fun _ hk => hk.1.2))); (case aS => exact (below_size blw)); (case aL => have := LMc8.out; omega); intro v379 w14 ho hb hg hat; rw [← Ny378.out] at ho; have n0_ := Aside0.mk (blk_grown (g := gb377) (o := .cells #[.string t372, .string t373, .int .i64 t374, .string t375] 34 (0, 0)) (by (with_reducible repeat (first | refine blk_drewN ?_ _ | refine blk_drew ?_ | refine blk_alloc ?_ _)); refine blk_put (cs := #[.string t372, .string t373, .int .i64 t374, .string (⟨#[]⟩ : ByteArray)]) ?_ 3 _ rfl; (with_reducible repeat (first | refine blk_drewN ?_ _ | refine blk_drew ?_ | refine blk_alloc ?_ _)); refine blk_put (cs := #[.string t372, .string t373, .int .i64 0, .string (⟨#[]⟩ : ByteArray)]) ?_ 2 _ rfl; (with_reducible repeat (first | refine blk_drewN ?_ _ | refine blk_drew ?_ | refine blk_alloc ?_ _)); refine blk_put (cs := #[.string t372, .string (⟨#[]⟩ : ByteArray), .int .i64 0, .string (⟨#[]⟩ : ByteArray)]) ?_ 1 _ rfl; (with_reducible repeat (first | refine blk_drewN ?_ _ | refine blk_drew ?_ | refine blk_alloc ?_ _)); refine blk_put (cs := #[.string (⟨#[]⟩ : ByteArray), .string (⟨#[]⟩ : ByteArray), .int .i64 0, .string (⟨#[]⟩ : ByteArray)]) ?_ 0 _ rfl; (with_reducible repeat (first | refine blk_drewN ?_ _ | refine blk_drew ?_ | refine blk_alloc ?_ _)); exact BK377.out) hg (Kd.R_away HO_4.out (fun _ hk => hk.2))); have n1_ := Aside0.mk (hb); have n2_ := Aside0.mk (ho); clear BK377; clear HB; clear HO_4; have BK377 := n0_; have HB := n1_; have HO380 := n2_; clear n0_ n1_ n2_; clear ho hb hg hat))
    go_roundg k1
    case measure => have := HK1.out; omega
    case rel => exact ⟨(x0_1.extract (t371 : Int).toNat x0_1.size), (y378), (by first | rfl | (simp; done) | (simp [*]; done) | (simp; exact (by intro l_; cases l_ <;> rfl : ∀ l_ : List UInt8, l_.isEmpty = !(l_ != [])) _)), H', ⟨by have := HK1.out; omega⟩, ⟨by (with_reducible repeat (first | apply Kd.R_alloc | apply Kd.R_drewN | apply Kd.R_drew)); exact Kd.R_mono HO380.out (fun _ hk => trivial)⟩, ⟨blw⟩⟩

end Go.Proofs.YtcpmoolpbeeedaaGreatDoor.Q
