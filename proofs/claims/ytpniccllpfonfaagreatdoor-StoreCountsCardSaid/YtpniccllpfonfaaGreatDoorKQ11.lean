-- Texts of this session put together by a program of it (wip/pack.py).
import Derived.Test.YtpniccllpfonfaaGreatDoorKQ0
import Derived.Test.YtpniccllpfonfaaGreatDoorKQ7
import Derived.Test.YtpniccllpfonfaaGreatDoorKQ9
import Derived.Test.YtpniccllpfonfaaGreatDoorKQ10
namespace Go.Proofs.YtpniccllpfonfaaGreatDoor.Q
open Go.RowKit Go.Proofs.YtpniccllpfonfaaGreatDoorW.PrintWords Go.Proofs.YtpniccllpfonfaaGreatDoorW.PrintLast Go.Proofs.YtpniccllpfonfaaGreatDoorW.PrintMore Go.Proofs.YtpniccllpfonfaaGreatDoorW.PrintSq
attribute [local go_sem] max2_int min2_int max_two min_two max_three min_three max_four min_four   -- for this text's walks alone
set_option linter.unusedVariables false
set_option linter.unusedSimpArgs false
/-! ### lex_next: function 183 -/
def lex_next.l0 : Nat → ByteArray → Int → Option (Int × ByteArray × ByteArray × Int)
  | 0, _, _ => none
  | k + 1, x0, x8 => if x8 < (x0.size : Int) then (if 0 ≤ x8 then ((lex_atomic.f (bt x0 x8)).bind fun t281 => (if t281 = true then (lex_next.l0 k x0 (wrap64 (x8 + 1))) else (if x8 = 0 then (some (0, (⟨#[]⟩ : ByteArray), (⟨#[]⟩ : ByteArray), 3)) else (if x8 ≤ (x0.size : Int) then (some (1, x0.extract 0 (x8 : Int).toNat, x0.extract (x8 : Int).toNat x0.size, 0)) else (none))))) else (none)) else (if x8 = 0 then (some (0, (⟨#[]⟩ : ByteArray), (⟨#[]⟩ : ByteArray), 3)) else (if 0 ≤ x8 then (if x8 ≤ (x0.size : Int) then (some (1, x0.extract 0 (x8 : Int).toNat, x0.extract (x8 : Int).toNat x0.size, 0)) else (none)) else (none)))
def lex_next.f (k : Nat) (a0 : ByteArray) : Option (Int × ByteArray × ByteArray × Int) := if 0 < (a0.size : Int) then ((lex_white.f (bt a0 0)).bind fun t272 => (if t272 = true then (if 1 ≤ (a0.size : Int) then (some (0, (⟨#[]⟩ : ByteArray), a0.extract 1 a0.size, 0)) else (none)) else ((lex_fold.f a0).bind fun t273 => (if t273 = true then (if 2 ≤ (a0.size : Int) then (some (0, (⟨#[]⟩ : ByteArray), a0.extract 2 a0.size, 0)) else (none)) else (if (bt a0 0) = 40 then ((lex_comment.f k a0).bind fun bt274 => (some (0, (⟨#[]⟩ : ByteArray), bt274.1, bt274.2))) else (if (bt a0 0) = 34 then ((lex_quoted.f k a0).bind fun bt276 => (some (bt276.1, bt276.2.1, bt276.2.2.1, bt276.2.2.2))) else ((lex_sign.f (bt a0 0)).bind fun t280 => (if t280 = true then (if 0 ≤ 1 then (if 1 ≤ (a0.size : Int) then (some (3, a0.extract 0 1, a0.extract 1 a0.size, 0)) else (none)) else (none)) else (lex_next.l0 k a0 0))))))))) else (none)
theorem lex_next.mono_l : ∀ k, (∀ y0 y1, LeO (lex_next.l0 k y0 y1) (lex_next.l0 (k + 1) y0 y1))
  | 0 => fun _ _ r h => by simp [lex_next.l0] at h
  | k + 1 => by
    have ih0 := lex_next.mono_l k
    · intro y0 y1
      unfold lex_next.l0
      repeat' first | (with_reducible first | exact ih0 _ _ | exact lex_comment.mono _ _ | exact lex_quoted.mono _ _ | exact LeO.refl _ | exact LeO.none _ | refine LeO.ite ?_ ?_ | refine LeO.bind ?_ (fun _ => ?_)) | exact ih0 _ _ | exact lex_comment.mono _ _ | exact lex_quoted.mono _ _ | exact LeO.none _ | refine LeO.ite ?_ ?_ | refine LeO.bind ?_ (fun _ => ?_)
theorem lex_next.mono : ∀ a0 k, LeO (lex_next.f k a0) (lex_next.f (k + 1) a0) := by
  intro a0 k
  have ih0 := lex_next.mono_l k
  unfold lex_next.f
  repeat' first | (with_reducible first | exact ih0 _ _ | exact lex_comment.mono _ _ | exact lex_quoted.mono _ _ | exact LeO.refl _ | exact LeO.none _ | refine LeO.ite ?_ ?_ | refine LeO.bind ?_ (fun _ => ?_)) | exact ih0 _ _ | exact lex_comment.mono _ _ | exact lex_quoted.mono _ _ | exact LeO.none _ | refine LeO.ite ?_ ?_ | refine LeO.bind ?_ (fun _ => ?_)
def lex_next.T12 : Bool × List (List Nat × List Nat) := (true, [([], []), ([0], [0]), ([1], [1]), ([], []), ([3], [3]), ([2, 0, 1, 2], [2]), ([4, 5, 0, 1, 2, 3, 4, 5], [4]), ([6, 0, 1, 2, 3, 4, 5, 6], [])])
def lex_next.B12 : List Nat := [0, 1, 3, 0, 8, 7, 63, 127]
theorem lex_next.tab12 : rtab .any (opsOf Tryz.f183 12) = lex_next.T12 := by kernel_rfl
theorem lex_next.bits12 : waitsOk lex_next.T12.2 lex_next.B12 = true := by kernel_rfl
def lex_next.T18 : Bool × List (List Nat × List Nat) := (true, [([], []), ([], []), ([0, 1], [0, 1]), ([2], [2]), ([], []), ([], []), ([4, 5], [4, 5]), ([3, 0, 1, 2, 3], [3]), ([6, 7, 0, 1, 2, 3, 4, 5, 6, 7], [6]), ([8, 0, 1, 2, 3, 4, 5, 6, 7, 8], [])])
def lex_next.B18 : List Nat := [0, 0, 3, 7, 0, 0, 48, 15, 255, 511]
theorem lex_next.tab18 : rtab .any (opsOf Tryz.f183 18) = lex_next.T18 := by kernel_rfl
theorem lex_next.bits18 : waitsOk lex_next.T18.2 lex_next.B18 = true := by kernel_rfl
set_option maxHeartbeats 8000000 in
set_option maxRecDepth 100000 in
theorem lex_next.calls (k : Nat) (a0 : ByteArray) (r1 : Int) (r2 : ByteArray) (r3 : ByteArray) (r4 : Int) (w : World) (h : lex_next.f k a0 = some (r1, r2, r3, r4)) :
    Calls Tryz.prog 183 #[.string a0] w fun e w' => e = .returned (.tuple #[.agg #[.int .i64 r1, .string r2], .string r3, .int .i64 r4]) ∧ Below w.heap.size w w' := by
 have hu238 := Tryz.underlying238
 have HB := Aside0.mk (Below.refl w.heap.size w)
 unfold lex_next.f at h
 have H := h
 clear h
 obtain ⟨c2, H⟩ := iteS H
 have c2b0 := decide_eq_true c2
 have c2b1 : decide (0 < a0.size) = true := decide_eq_true (by omega)
 clear c2
 replace H := Option.bind_eq_some_iff.mp H
 obtain ⟨t272, A40, H⟩ := H
 try dsimp only at H
 have A4 := Aside0.mk A40
 clear A40
 by_cases c5 : t272 = true
 ·subst c5
  rw [if_pos rfl] at H
  obtain ⟨c6, H⟩ := iteS H
  have c6b0 := eq_true c6
  have c6b1 := decide_eq_true c6
  clear c6
  simp only [Option.some.injEq, Prod.mk.injEq] at H
  obtain ⟨rfl, rfl, rfl, rfl⟩ := H
  go_enter Tryz.func183, Tryz.ntmps183
  try go_wp2_with (first | ((with_reducible refine gate_dst (N := 2) rfl ?_); refine box_event ?hg (N := 2) ?hd (cs := #[.int .i64 0, .string (⟨#[]⟩ : ByteArray)]) (t := 238) ?hr ?_; (case hd => rfl); (case hg => rfl); (case hr => first | (go_simp; done) | (go_simp; rfl)); intro gb271 hg w7 hbox hb; have BK271 := Aside0.mk (hbox); have GW271 : Aside0 (w.heap.size ≤ gb271) := gw_ hg; have GE271 : Aside0 (w.heap.size ≤ gb271) := gw_ hg; replace HB := Aside0.mk (below_step blw hb); clear hb hbox hg; have p3 : 0 ≤ (0 : Int) := (by omega); have q3 : 0 < a0.size := (by have : (0 : Int) < (a0.size : Int) := od_; omega); have hx3 : ∀ h : 0 < a0.size, ((a0[0]'h).toNat : Int) = bt a0 0 := bt_at a0 0; clear p3; have qi3 : (0 < (a0.size : Int)) = True := eq_true (od_); replace q3 := eq_true q3) | ((with_reducible refine gc 214 rfl ?_); refine cl_ (some 13) Tryz.func214 (lex_white.calls (bt a0 0) true _ A4.out) ?_; rintro w' ⟨nd, rfl⟩; (try (rw [drewN_self w7]; generalize hq_ : World.drewN w7 _ = w7; have n0_ : Aside0 (w7.heap[gb271]? = some (.cells #[.int .i64 0, .string (⟨#[]⟩ : ByteArray)] 238 (0, 0))) := ⟨by rw [← hq_]; exact (bkw BK271)⟩; have n1_ : Aside0 (Below w.heap.size w w7) := ⟨by rw [← hq_]; exact blw⟩; clear BK271 HB hq_; have BK271 := n0_; have HB := n1_; clear n0_ n1_))))
  replace BK271 := Aside0.mk (blk_drew BK271.out)
  replace HB := Aside0.mk (below_drew1 HB.out)
  refine start_ (n := 6) (S := fun w' => True) (ds := []) (ba 6 0) (by kernel_rfl) rfl rfl trivial (fun hHeld => ?_)
  generalize w7.drew = w8 at BK271 HB hHeld ⊢
  refine pure_ (i := 0) (N := some 14) (v := ?_) (a' := ?_) (ba 6 1) rfl rfl (by kernel_rfl) (fun _ _ _ h => h) (Or.inl ⟨by rfl, ?_⟩) ?_ ?_
  rotate_left
  ·intro w'
   go_simp
   with_reducible rfl
  rotate_left
  ·simp only [Act.put, List.setIfInBounds_toArray, List.set_cons_zero, List.set_cons_succ, i64_w, i32_w]
   rfl
  refine pure_ (i := 1) (N := some 15) (v := ?_) (a' := ?_) (ba 6 3) rfl rfl (by kernel_rfl) (fun _ _ _ h => h) (Or.inl ⟨by rfl, ?_⟩) ?_ ?_
  rotate_left
  ·intro w'
   go_simp
   with_reducible rfl
  rotate_left
  ·simp only [Act.put, List.setIfInBounds_toArray, List.set_cons_zero, List.set_cons_succ, i64_w, i32_w]
   rfl
  refine pure_ (i := 2) (N := some 16) (v := ?_) (a' := ?_) (ba 6 7) rfl rfl (by kernel_rfl) (fun _ _ _ h => h) (Or.inl ⟨by rfl, ?_⟩) ?_ ?_
  rotate_left
  ·intro w'
   go_simp
   with_reducible rfl
  rotate_left
  ·simp only [Act.put, List.setIfInBounds_toArray, List.set_cons_zero, List.set_cons_succ, i64_w, i32_w]
   rfl
  refine one_ (i := 3) (N := none) (ba 6 15) rfl rfl (by kernel_rfl) (by decide) (fun K hK => ?_)
  have hs9 : w8.cell? ⟨gb271, 0, none⟩ = some (.int .i64 0) := bk_ BK271
  have hfs9 := blk_frozen BK271.out 0
  have hs10 : w8.cell? ⟨gb271, 1, none⟩ = some (.string (⟨#[]⟩ : ByteArray)) := bk_ BK271
  have hfs10 := blk_frozen BK271.out 1
  refine skip_ (w1 := ?_) (by rfl) rfl ?_ ?_
  rotate_left
  ·go_simp
   rfl
  refine hK.out _ _ trivial (fun hHeld => ?_)
  clear hK K
  refine pure_ (i := 4) (N := some 3) (v := ?_) (a' := ?_) (ba 6 31) rfl rfl (by kernel_rfl) (fun _ _ _ h => h) (Or.inl ⟨by rfl, ?_⟩) ?_ ?_
  rotate_left
  ·intro w'
   go_simp
   with_reducible rfl
  rotate_left
  ·simp only [Act.put, List.setIfInBounds_toArray, List.set_cons_zero, List.set_cons_succ, i64_w, i32_w]
   rfl
  refine pure_ (i := 5) (N := some 4) (v := ?_) (a' := ?_) (ba 6 63) rfl rfl (by kernel_rfl) (fun _ _ _ h => h) (Or.inl ⟨by rfl, ?_⟩) ?_ ?_
  rotate_left
  ·intro w'
   go_simp
   with_reducible rfl
  rotate_left
  ·simp only [Act.put, List.setIfInBounds_toArray, List.set_cons_zero, List.set_cons_succ, i64_w, i32_w]
   rfl
  refine done_ (by kernel_rfl) ?_
  try go_wp2
  refine bodyPost_ret (results_ctt rfl _ _ gb271 238 #[.int .i64 0, .string (⟨#[]⟩ : ByteArray)] (0, 0) _ rfl (by (with_reducible repeat (first | refine blk_drewN ?_ _ | refine blk_drew ?_ | refine blk_alloc ?_ _)); refine blk_put (cs := #[.int .i64 0, .string (⟨#[]⟩ : ByteArray)]) ?_ 1 _ rfl; (with_reducible repeat (first | refine blk_drewN ?_ _ | refine blk_drew ?_ | refine blk_alloc ?_ _)); refine blk_put (cs := #[.int .i64 0, .string (⟨#[]⟩ : ByteArray)]) ?_ 0 _ rfl; (with_reducible repeat (first | refine blk_drewN ?_ _ | refine blk_drew ?_ | refine blk_alloc ?_ _)); exact BK271.out) Tryz.underlying238 rfl (by kernel_rfl)) rfl ?_
  exact ⟨by first | rfl | (simp [errW_none, errW_some] <;> rfl) | (simp [*, errW_none, errW_some] <;> rfl), blw⟩
 ·replace c5 := Bool.eq_false_iff.mpr c5
  subst c5
  rw [if_neg nft] at H
  replace H := Option.bind_eq_some_iff.mp H
  obtain ⟨t273, A110, H⟩ := H
  try dsimp only at H
  have A11 := Aside0.mk A110
  clear A110
  by_cases c12 : t273 = true
  ·subst c12
   rw [if_pos rfl] at H
   obtain ⟨c13, H⟩ := iteS H
   have c13b0 := eq_true c13
   have c13b1 := decide_eq_true c13
   clear c13
   simp only [Option.some.injEq, Prod.mk.injEq] at H
   obtain ⟨rfl, rfl, rfl, rfl⟩ := H
   go_enter Tryz.func183, Tryz.ntmps183
   try go_wp2_with (first | ((with_reducible refine gate_dst (N := 2) rfl ?_); refine box_event ?hg (N := 2) ?hd (cs := #[.int .i64 0, .string (⟨#[]⟩ : ByteArray)]) (t := 238) ?hr ?_; (case hd => rfl); (case hg => rfl); (case hr => first | (go_simp; done) | (go_simp; rfl)); intro gb271 hg w14 hbox hb; have BK271 := Aside0.mk (hbox); have GW271 : Aside0 (w.heap.size ≤ gb271) := gw_ hg; have GE271 : Aside0 (w.heap.size ≤ gb271) := gw_ hg; replace HB := Aside0.mk (below_step blw hb); clear hb hbox hg; have p3 : 0 ≤ (0 : Int) := (by omega); have q3 : 0 < a0.size := (by have : (0 : Int) < (a0.size : Int) := od_; omega); have hx3 : ∀ h : 0 < a0.size, ((a0[0]'h).toNat : Int) = bt a0 0 := bt_at a0 0; clear p3; have qi3 : (0 < (a0.size : Int)) = True := eq_true (od_); replace q3 := eq_true q3) | ((with_reducible refine gc 214 rfl ?_); refine cl_ (some 13) Tryz.func214 (lex_white.calls (bt a0 0) false _ A4.out) ?_; rintro w' ⟨nd, rfl⟩; (try (rw [drewN_self w14]; generalize hq_ : World.drewN w14 _ = w14; have n0_ : Aside0 (w14.heap[gb271]? = some (.cells #[.int .i64 0, .string (⟨#[]⟩ : ByteArray)] 238 (0, 0))) := ⟨by rw [← hq_]; exact (bkw BK271)⟩; have n1_ : Aside0 (Below w.heap.size w w14) := ⟨by rw [← hq_]; exact blw⟩; clear BK271 HB hq_; have BK271 := n0_; have HB := n1_; clear n0_ n1_))) | ((with_reducible refine gc 215 rfl ?_); refine cl_ (some 19) Tryz.func215 (lex_fold.calls a0 true _ A11.out) ?_; rintro w' ⟨nd, rfl⟩; (try (rw [drewN_self w14]; generalize hq_ : World.drewN w14 _ = w14; have n0_ : Aside0 (w14.heap[gb271]? = some (.cells #[.int .i64 0, .string (⟨#[]⟩ : ByteArray)] 238 (0, 0))) := ⟨by rw [← hq_]; exact (bkw BK271)⟩; have n1_ : Aside0 (Below w.heap.size w w14) := ⟨by rw [← hq_]; exact blw⟩; clear BK271 HB hq_; have BK271 := n0_; have HB := n1_; clear n0_ n1_))))
   replace BK271 := Aside0.mk (blk_drew BK271.out)
   replace HB := Aside0.mk (below_drew1 HB.out)
   refine start_ (n := 6) (S := fun w' => True) (ds := []) (ba 6 0) (by kernel_rfl) rfl rfl trivial (fun hHeld => ?_)
   generalize w14.drew = w15 at BK271 HB hHeld ⊢
   refine pure_ (i := 0) (N := some 20) (v := ?_) (a' := ?_) (ba 6 1) rfl rfl (by kernel_rfl) (fun _ _ _ h => h) (Or.inl ⟨by rfl, ?_⟩) ?_ ?_
   rotate_left
   ·intro w'
    go_simp
    with_reducible rfl
   rotate_left
   ·simp only [Act.put, List.setIfInBounds_toArray, List.set_cons_zero, List.set_cons_succ, i64_w, i32_w]
    rfl
   refine pure_ (i := 1) (N := some 21) (v := ?_) (a' := ?_) (ba 6 3) rfl rfl (by kernel_rfl) (fun _ _ _ h => h) (Or.inl ⟨by rfl, ?_⟩) ?_ ?_
   rotate_left
   ·intro w'
    go_simp
    with_reducible rfl
   rotate_left
   ·simp only [Act.put, List.setIfInBounds_toArray, List.set_cons_zero, List.set_cons_succ, i64_w, i32_w]
    rfl
   refine pure_ (i := 2) (N := some 22) (v := ?_) (a' := ?_) (ba 6 7) rfl rfl (by kernel_rfl) (fun _ _ _ h => h) (Or.inl ⟨by rfl, ?_⟩) ?_ ?_
   rotate_left
   ·intro w'
    go_simp
    with_reducible rfl
   rotate_left
   ·simp only [Act.put, List.setIfInBounds_toArray, List.set_cons_zero, List.set_cons_succ, i64_w, i32_w]
    rfl
   refine one_ (i := 3) (N := none) (ba 6 15) rfl rfl (by kernel_rfl) (by decide) (fun K hK => ?_)
   have hs16 : w15.cell? ⟨gb271, 0, none⟩ = some (.int .i64 0) := bk_ BK271
   have hfs16 := blk_frozen BK271.out 0
   have hs17 : w15.cell? ⟨gb271, 1, none⟩ = some (.string (⟨#[]⟩ : ByteArray)) := bk_ BK271
   have hfs17 := blk_frozen BK271.out 1
   refine skip_ (w1 := ?_) (by rfl) rfl ?_ ?_
   rotate_left
   ·go_simp
    rfl
   refine hK.out _ _ trivial (fun hHeld => ?_)
   clear hK K
   refine pure_ (i := 4) (N := some 3) (v := ?_) (a' := ?_) (ba 6 31) rfl rfl (by kernel_rfl) (fun _ _ _ h => h) (Or.inl ⟨by rfl, ?_⟩) ?_ ?_
   rotate_left
   ·intro w'
    go_simp
    with_reducible rfl
   rotate_left
   ·simp only [Act.put, List.setIfInBounds_toArray, List.set_cons_zero, List.set_cons_succ, i64_w, i32_w]
    rfl
   refine pure_ (i := 5) (N := some 4) (v := ?_) (a' := ?_) (ba 6 63) rfl rfl (by kernel_rfl) (fun _ _ _ h => h) (Or.inl ⟨by rfl, ?_⟩) ?_ ?_
   rotate_left
   ·intro w'
    go_simp
    with_reducible rfl
   rotate_left
   ·simp only [Act.put, List.setIfInBounds_toArray, List.set_cons_zero, List.set_cons_succ, i64_w, i32_w]
    rfl
   refine done_ (by kernel_rfl) ?_
   try go_wp2
   refine bodyPost_ret (results_ctt rfl _ _ gb271 238 #[.int .i64 0, .string (⟨#[]⟩ : ByteArray)] (0, 0) _ rfl (by (with_reducible repeat (first | refine blk_drewN ?_ _ | refine blk_drew ?_ | refine blk_alloc ?_ _)); refine blk_put (cs := #[.int .i64 0, .string (⟨#[]⟩ : ByteArray)]) ?_ 1 _ rfl; (with_reducible repeat (first | refine blk_drewN ?_ _ | refine blk_drew ?_ | refine blk_alloc ?_ _)); refine blk_put (cs := #[.int .i64 0, .string (⟨#[]⟩ : ByteArray)]) ?_ 0 _ rfl; (with_reducible repeat (first | refine blk_drewN ?_ _ | refine blk_drew ?_ | refine blk_alloc ?_ _)); exact BK271.out) Tryz.underlying238 rfl (by kernel_rfl)) rfl ?_
   exact ⟨by first | rfl | (simp [errW_none, errW_some] <;> rfl) | (simp [*, errW_none, errW_some] <;> rfl), blw⟩
  ·replace c12 := Bool.eq_false_iff.mpr c12
   subst c12
   rw [if_neg nft] at H
   by_cases c18 : (bt a0 0) = 40
   ·rw [if_pos c18] at H
    have c18b0 := beq_iff_eq.mpr c18
    have c18b1 := bne_eq_false_iff_eq.mpr c18
    clear c18
    replace H := Option.bind_eq_some_iff.mp H
    obtain ⟨⟨t274, t275⟩, A190, H⟩ := H
    try dsimp only at H
    have A19 := Aside0.mk A190
    clear A190
    simp only [Option.some.injEq, Prod.mk.injEq] at H
    obtain ⟨rfl, rfl, rfl, rfl⟩ := H
    go_enter Tryz.func183, Tryz.ntmps183
    go_wp2_with (first | ((with_reducible refine gate_dst (N := 2) rfl ?_); refine box_event ?hg (N := 2) ?hd (cs := #[.int .i64 0, .string (⟨#[]⟩ : ByteArray)]) (t := 238) ?hr ?_; (case hd => rfl); (case hg => rfl); (case hr => first | (go_simp; done) | (go_simp; rfl)); intro gb271 hg w20 hbox hb; have BK271 := Aside0.mk (hbox); have GW271 : Aside0 (w.heap.size ≤ gb271) := gw_ hg; have GE271 : Aside0 (w.heap.size ≤ gb271) := gw_ hg; replace HB := Aside0.mk (below_step blw hb); clear hb hbox hg; have p3 : 0 ≤ (0 : Int) := (by omega); have q3 : 0 < a0.size := (by have : (0 : Int) < (a0.size : Int) := od_; omega); have hx3 : ∀ h : 0 < a0.size, ((a0[0]'h).toNat : Int) = bt a0 0 := bt_at a0 0; clear p3; have qi3 : (0 < (a0.size : Int)) = True := eq_true (od_); replace q3 := eq_true q3) | ((with_reducible refine gc 214 rfl ?_); refine cl_ (some 13) Tryz.func214 (lex_white.calls (bt a0 0) false _ A4.out) ?_; rintro w' ⟨nd, rfl⟩; (try (rw [drewN_self w20]; generalize hq_ : World.drewN w20 _ = w20; have n0_ : Aside0 (w20.heap[gb271]? = some (.cells #[.int .i64 0, .string (⟨#[]⟩ : ByteArray)] 238 (0, 0))) := ⟨by rw [← hq_]; exact (bkw BK271)⟩; have n1_ : Aside0 (Below w.heap.size w w20) := ⟨by rw [← hq_]; exact blw⟩; clear BK271 HB hq_; have BK271 := n0_; have HB := n1_; clear n0_ n1_))) | ((with_reducible refine gc 215 rfl ?_); refine cl_ (some 19) Tryz.func215 (lex_fold.calls a0 false _ A11.out) ?_; rintro w' ⟨nd, rfl⟩; (try (rw [drewN_self w20]; generalize hq_ : World.drewN w20 _ = w20; have n0_ : Aside0 (w20.heap[gb271]? = some (.cells #[.int .i64 0, .string (⟨#[]⟩ : ByteArray)] 238 (0, 0))) := ⟨by rw [← hq_]; exact (bkw BK271)⟩; have n1_ : Aside0 (Below w.heap.size w w20) := ⟨by rw [← hq_]; exact blw⟩; clear BK271 HB hq_; have BK271 := n0_; have HB := n1_; clear n0_ n1_))) | ((with_reducible refine gc 216 rfl ?_); refine cl_ (some 28) Tryz.func216 (lex_comment.calls k a0 t274 t275 _ A19.out) ?_; rintro w' ⟨nd, rfl⟩; (try (rw [drewN_self w20]; generalize hq_ : World.drewN w20 _ = w20; have n0_ : Aside0 (w20.heap[gb271]? = some (.cells #[.int .i64 0, .string (⟨#[]⟩ : ByteArray)] 238 (0, 0))) := ⟨by rw [← hq_]; exact (bkw BK271)⟩; have n1_ : Aside0 (Below w.heap.size w w20) := ⟨by rw [← hq_]; exact blw⟩; clear BK271 HB hq_; have BK271 := n0_; have HB := n1_; clear n0_ n1_)); have hcz21_0 : w20.cell? ⟨gb271, 0, none⟩ = some (.int .i64 0) := bk_ BK271; have hcz21_1 : w20.cell? ⟨gb271, 1, none⟩ = some (.string (⟨#[]⟩ : ByteArray)) := bk_ BK271; have hfz21_0 := blk_frozen BK271.out 0; have hfz21_1 := blk_frozen BK271.out 1))
    refine bodyPost_ret (results_ctt rfl _ _ gb271 238 #[.int .i64 0, .string (⟨#[]⟩ : ByteArray)] (0, 0) _ rfl (by (with_reducible repeat (first | refine blk_drewN ?_ _ | refine blk_drew ?_ | refine blk_alloc ?_ _)); refine blk_put (cs := #[.int .i64 0, .string (⟨#[]⟩ : ByteArray)]) ?_ 1 _ rfl; (with_reducible repeat (first | refine blk_drewN ?_ _ | refine blk_drew ?_ | refine blk_alloc ?_ _)); refine blk_put (cs := #[.int .i64 0, .string (⟨#[]⟩ : ByteArray)]) ?_ 0 _ rfl; (with_reducible repeat (first | refine blk_drewN ?_ _ | refine blk_drew ?_ | refine blk_alloc ?_ _)); exact BK271.out) Tryz.underlying238 rfl (by kernel_rfl)) rfl ?_
    exact ⟨by first | rfl | (simp [errW_none, errW_some] <;> rfl) | (simp [*, errW_none, errW_some] <;> rfl), blw⟩
   ·rw [if_neg c18] at H
    have c18b0 := beq_eq_false_iff_ne.mpr c18
    have c18b1 := bne_iff_ne.mpr c18
    by_cases c22 : (bt a0 0) = 34
    ·rw [if_pos c22] at H
     have c22b0 := beq_iff_eq.mpr c22
     have c22b1 := bne_eq_false_iff_eq.mpr c22
     clear c22
     replace H := Option.bind_eq_some_iff.mp H
     obtain ⟨⟨t276, t277, t278, t279⟩, A230, H⟩ := H
     try dsimp only at H
     have A23 := Aside0.mk A230
     clear A230
     simp only [Option.some.injEq, Prod.mk.injEq] at H
     obtain ⟨rfl, rfl, rfl, rfl⟩ := H
     go_enter Tryz.func183, Tryz.ntmps183
     go_wp2_with (first | ((with_reducible refine gate_dst (N := 2) rfl ?_); refine box_event ?hg (N := 2) ?hd (cs := #[.int .i64 0, .string (⟨#[]⟩ : ByteArray)]) (t := 238) ?hr ?_; (case hd => rfl); (case hg => rfl); (case hr => first | (go_simp; done) | (go_simp; rfl)); intro gb271 hg w24 hbox hb; have BK271 := Aside0.mk (hbox); have GW271 : Aside0 (w.heap.size ≤ gb271) := gw_ hg; have GE271 : Aside0 (w.heap.size ≤ gb271) := gw_ hg; replace HB := Aside0.mk (below_step blw hb); clear hb hbox hg; have p3 : 0 ≤ (0 : Int) := (by omega); have q3 : 0 < a0.size := (by have : (0 : Int) < (a0.size : Int) := od_; omega); have hx3 : ∀ h : 0 < a0.size, ((a0[0]'h).toNat : Int) = bt a0 0 := bt_at a0 0; clear p3; have qi3 : (0 < (a0.size : Int)) = True := eq_true (od_); replace q3 := eq_true q3) | ((with_reducible refine gc 214 rfl ?_); refine cl_ (some 13) Tryz.func214 (lex_white.calls (bt a0 0) false _ A4.out) ?_; rintro w' ⟨nd, rfl⟩; (try (rw [drewN_self w24]; generalize hq_ : World.drewN w24 _ = w24; have n0_ : Aside0 (w24.heap[gb271]? = some (.cells #[.int .i64 0, .string (⟨#[]⟩ : ByteArray)] 238 (0, 0))) := ⟨by rw [← hq_]; exact (bkw BK271)⟩; have n1_ : Aside0 (Below w.heap.size w w24) := ⟨by rw [← hq_]; exact blw⟩; clear BK271 HB hq_; have BK271 := n0_; have HB := n1_; clear n0_ n1_))) | ((with_reducible refine gc 215 rfl ?_); refine cl_ (some 19) Tryz.func215 (lex_fold.calls a0 false _ A11.out) ?_; rintro w' ⟨nd, rfl⟩; (try (rw [drewN_self w24]; generalize hq_ : World.drewN w24 _ = w24; have n0_ : Aside0 (w24.heap[gb271]? = some (.cells #[.int .i64 0, .string (⟨#[]⟩ : ByteArray)] 238 (0, 0))) := ⟨by rw [← hq_]; exact (bkw BK271)⟩; have n1_ : Aside0 (Below w.heap.size w w24) := ⟨by rw [← hq_]; exact blw⟩; clear BK271 HB hq_; have BK271 := n0_; have HB := n1_; clear n0_ n1_))) | ((with_reducible refine gc 217 rfl ?_); refine cl_ (some 38) Tryz.func217 (lex_quoted.calls k a0 t276 t277 t278 t279 _ A23.out) ?_; rintro w25 hb; replace BK271 := Aside0.mk (blk_below (g := gb271) (o := .cells #[.int .i64 0, .string (⟨#[]⟩ : ByteArray)] 238 (0, 0)) (bkw BK271) hb); replace HB := Aside0.mk (below_step blw hb); (try clear hb); have hcz26_0 : w25.cell? ⟨gb271, 0, none⟩ = some (.int .i64 0) := bk_ BK271; have hcz26_1 : w25.cell? ⟨gb271, 1, none⟩ = some (.string (⟨#[]⟩ : ByteArray)) := bk_ BK271; have hfz26_0 := blk_frozen BK271.out 0; have hfz26_1 := blk_frozen BK271.out 1))
     refine bodyPost_ret (results_ctt rfl _ _ gb271 238 #[.int .i64 t276, .string t277] (0, 0) _ rfl (by (with_reducible repeat (first | refine blk_drewN ?_ _ | refine blk_drew ?_ | refine blk_alloc ?_ _)); refine blk_put (cs := #[.int .i64 t276, .string (⟨#[]⟩ : ByteArray)]) ?_ 1 _ rfl; (with_reducible repeat (first | refine blk_drewN ?_ _ | refine blk_drew ?_ | refine blk_alloc ?_ _)); refine blk_put (cs := #[.int .i64 0, .string (⟨#[]⟩ : ByteArray)]) ?_ 0 _ rfl; (with_reducible repeat (first | refine blk_drewN ?_ _ | refine blk_drew ?_ | refine blk_alloc ?_ _)); exact BK271.out) Tryz.underlying238 rfl (by kernel_rfl)) rfl ?_
     exact ⟨by first | rfl | (simp [errW_none, errW_some] <;> rfl) | (simp [*, errW_none, errW_some] <;> rfl), blw⟩
    ·rw [if_neg c22] at H
     have c22b0 := beq_eq_false_iff_ne.mpr c22
     have c22b1 := bne_iff_ne.mpr c22
     replace H := Option.bind_eq_some_iff.mp H
     obtain ⟨t280, A270, H⟩ := H
     try dsimp only at H
     have A27 := Aside0.mk A270
     clear A270
     by_cases c28 : t280 = true
     ·subst c28
      rw [if_pos rfl] at H
      obtain ⟨c29, H⟩ := iteS H
      have c29b0 := eq_true c29
      have c29b1 := decide_eq_true c29
      clear c29
      obtain ⟨c30, H⟩ := iteS H
      have c30b0 := eq_true c30
      have c30b1 := decide_eq_true c30
      clear c30
      have c31b0 := eq_true (od_ : 1 ≤ (a0.size : Int))
      simp only [Option.some.injEq, Prod.mk.injEq] at H
      obtain ⟨rfl, rfl, rfl, rfl⟩ := H
      go_enter Tryz.func183, Tryz.ntmps183
      try go_wp2_with (first | ((with_reducible refine gate_dst (N := 2) rfl ?_); refine box_event ?hg (N := 2) ?hd (cs := #[.int .i64 0, .string (⟨#[]⟩ : ByteArray)]) (t := 238) ?hr ?_; (case hd => rfl); (case hg => rfl); (case hr => first | (go_simp; done) | (go_simp; rfl)); intro gb271 hg w32 hbox hb; have BK271 := Aside0.mk (hbox); have GW271 : Aside0 (w.heap.size ≤ gb271) := gw_ hg; have GE271 : Aside0 (w.heap.size ≤ gb271) := gw_ hg; replace HB := Aside0.mk (below_step blw hb); clear hb hbox hg; have p3 : 0 ≤ (0 : Int) := (by omega); have q3 : 0 < a0.size := (by have : (0 : Int) < (a0.size : Int) := od_; omega); have hx3 : ∀ h : 0 < a0.size, ((a0[0]'h).toNat : Int) = bt a0 0 := bt_at a0 0; clear p3; have qi3 : (0 < (a0.size : Int)) = True := eq_true (od_); replace q3 := eq_true q3) | ((with_reducible refine gc 214 rfl ?_); refine cl_ (some 13) Tryz.func214 (lex_white.calls (bt a0 0) false _ A4.out) ?_; rintro w' ⟨nd, rfl⟩; (try (rw [drewN_self w32]; generalize hq_ : World.drewN w32 _ = w32; have n0_ : Aside0 (w32.heap[gb271]? = some (.cells #[.int .i64 0, .string (⟨#[]⟩ : ByteArray)] 238 (0, 0))) := ⟨by rw [← hq_]; exact (bkw BK271)⟩; have n1_ : Aside0 (Below w.heap.size w w32) := ⟨by rw [← hq_]; exact blw⟩; clear BK271 HB hq_; have BK271 := n0_; have HB := n1_; clear n0_ n1_))) | ((with_reducible refine gc 215 rfl ?_); refine cl_ (some 19) Tryz.func215 (lex_fold.calls a0 false _ A11.out) ?_; rintro w' ⟨nd, rfl⟩; (try (rw [drewN_self w32]; generalize hq_ : World.drewN w32 _ = w32; have n0_ : Aside0 (w32.heap[gb271]? = some (.cells #[.int .i64 0, .string (⟨#[]⟩ : ByteArray)] 238 (0, 0))) := ⟨by rw [← hq_]; exact (bkw BK271)⟩; have n1_ : Aside0 (Below w.heap.size w w32) := ⟨by rw [← hq_]; exact blw⟩; clear BK271 HB hq_; have BK271 := n0_; have HB := n1_; clear n0_ n1_))) | ((with_reducible refine gc 218 rfl ?_); refine cl_ (some 44) Tryz.func218 (lex_sign.calls (bt a0 0) true _ A27.out) ?_; rintro w' ⟨nd, rfl⟩; (try (rw [drewN_self w32]; generalize hq_ : World.drewN w32 _ = w32; have n0_ : Aside0 (w32.heap[gb271]? = some (.cells #[.int .i64 0, .string (⟨#[]⟩ : ByteArray)] 238 (0, 0))) := ⟨by rw [← hq_]; exact (bkw BK271)⟩; have n1_ : Aside0 (Below w.heap.size w w32) := ⟨by rw [← hq_]; exact blw⟩; clear BK271 HB hq_; have BK271 := n0_; have HB := n1_; clear n0_ n1_))))
      replace BK271 := Aside0.mk (blk_drew BK271.out)
      replace HB := Aside0.mk (below_drew1 HB.out)
      refine start_ (n := 8) (S := fun w' => True) (ds := []) (ba 8 0) (by kernel_rfl) rfl rfl trivial (fun hHeld => ?_); refine with_tabW lex_next.tab12 lex_next.bits12 (fun HT_ HW_ => ?_)
      generalize w32.drew = w33 at BK271 HB hHeld ⊢
      refine pu_ 0 45 1 ?_
      refine pu_ 1 46 3 ?_
      refine pu_ 2 47 7 ?_
      refine pu_ 3 48 15 ?_
      refine pu_ 4 49 31 ?_
      refine one1 5 none 63 (fun K hK => ?_)
      have hs34 : w33.cell? ⟨gb271, 0, none⟩ = some (.int .i64 0) := bk_ BK271
      have hfs34 := blk_frozen BK271.out 0
      have hs35 : w33.cell? ⟨gb271, 1, none⟩ = some (.string (⟨#[]⟩ : ByteArray)) := bk_ BK271
      have hfs35 := blk_frozen BK271.out 1
      refine skip_ (w1 := ?_) (by rfl) rfl ?_ ?_
      rotate_left
      ·go_simp
       rfl
      refine hK.out _ _ trivial (fun hHeld => ?_)
      clear hK K
      refine pu_ 6 3 127 ?_
      refine pu_ 7 4 255 ?_
      refine done_ (done_of HT_.out (by kernel_rfl)) ?_
      try go_wp2
      refine bodyPost_ret (results_ctt rfl _ _ gb271 238 #[.int .i64 3, .string (a0.extract 0 1)] (0, 0) _ rfl (by (with_reducible repeat (first | refine blk_drewN ?_ _ | refine blk_drew ?_ | refine blk_alloc ?_ _)); refine blk_put (cs := #[.int .i64 3, .string (⟨#[]⟩ : ByteArray)]) ?_ 1 _ rfl; (with_reducible repeat (first | refine blk_drewN ?_ _ | refine blk_drew ?_ | refine blk_alloc ?_ _)); refine blk_put (cs := #[.int .i64 0, .string (⟨#[]⟩ : ByteArray)]) ?_ 0 _ rfl; (with_reducible repeat (first | refine blk_drewN ?_ _ | refine blk_drew ?_ | refine blk_alloc ?_ _)); exact BK271.out) Tryz.underlying238 rfl (by kernel_rfl)) rfl ?_
      exact ⟨by first | rfl | (simp [errW_none, errW_some] <;> rfl) | (simp [*, errW_none, errW_some] <;> rfl), blw⟩
     ·replace c28 := Bool.eq_false_iff.mpr c28
      subst c28
      rw [if_neg nft] at H
      have H' := Aside0.mk H
      clear H
      go_enter Tryz.func183, Tryz.ntmps183
      go_wp2_with (first | ((with_reducible refine gate_dst (N := 2) rfl ?_); refine box_event ?hg (N := 2) ?hd (cs := #[.int .i64 0, .string (⟨#[]⟩ : ByteArray)]) (t := 238) ?hr ?_; (case hd => rfl); (case hg => rfl); (case hr => first | (go_simp; done) | (go_simp; rfl)); intro gb271 hg w36 hbox hb; have BK271 := Aside0.mk (hbox); have GW271 : Aside0 (w.heap.size ≤ gb271) := gw_ hg; have GE271 : Aside0 (w.heap.size ≤ gb271) := gw_ hg; replace HB := Aside0.mk (below_step blw hb); clear hb hbox hg; have p3 : 0 ≤ (0 : Int) := (by omega); have q3 : 0 < a0.size := (by have : (0 : Int) < (a0.size : Int) := od_; omega); have hx3 : ∀ h : 0 < a0.size, ((a0[0]'h).toNat : Int) = bt a0 0 := bt_at a0 0; clear p3; have qi3 : (0 < (a0.size : Int)) = True := eq_true (od_); replace q3 := eq_true q3) | ((with_reducible refine gc 214 rfl ?_); refine cl_ (some 13) Tryz.func214 (lex_white.calls (bt a0 0) false _ A4.out) ?_; rintro w' ⟨nd, rfl⟩) | ((with_reducible refine gc 215 rfl ?_); refine cl_ (some 19) Tryz.func215 (lex_fold.calls a0 false _ A11.out) ?_; rintro w' ⟨nd, rfl⟩) | ((with_reducible refine gc 218 rfl ?_); refine cl_ (some 44) Tryz.func218 (lex_sign.calls (bt a0 0) false _ A27.out) ?_; rintro w' ⟨nd, rfl⟩))
      go_loopg [8] k (fun kq v8 w' => ∃ (x8_1 : Int), v8 = .int .i64 x8_1 ∧ Aside0 (lex_next.l0 kq a0 x8_1 = some (r1, r2, r3, r4)) ∧ Aside0 (kq ≤ k) ∧ Aside0 (w'.heap[gb271]? = some (.cells #[.int .i64 0, .string (⟨#[]⟩ : ByteArray)] 238 (0, 0))) ∧ Aside0 (Below w.heap.size w w'))
      case atStart => exact ⟨(0), (by first | rfl | (simp; done) | (exact absurd c29b0 (by decide)) | (simp [*]; done)), H', ⟨Nat.le_refl _⟩, ⟨bkw BK271⟩, ⟨blw⟩⟩
      case round =>
       clear H'
       try clear c1
       try clear c2
       try clear c2b0
       try clear c2b1
       try clear p2
       try clear c3
       try clear p3
       try clear q3
       try clear hx3
       try clear qi3
       try clear c5
       try clear c6
       try clear c6b0
       try clear c6b1
       try clear c12
       try clear c13
       try clear c13b0
       try clear c13b1
       try clear c18
       try clear c18b0
       try clear c18b1
       try clear c21
       try clear c22
       try clear c22b0
       try clear c22b1
       try clear c28
       try clear c29
       try clear c29b0
       try clear c29b1
       try clear c30
       try clear c30b0
       try clear c30b1
       try clear c31
       try clear c31b0
       try clear hcz21_0 hcz21_1
       try clear hcz26_0 hcz26_1
       try clear hfz21_0 hfz21_1
       try clear hfz26_0 hfz26_1
       try clear p3
       try clear q3
       obtain ⟨x8_1, rfl, HA, HK1, BK271, HB⟩ := hrel
       cases gk with
       | zero => exact absurd HA.out (by simp [lex_next.l0])
       | succ k1 =>
        have H := HA.out
        clear HA
        simp only [lex_next.l0] at H
        by_cases c37 : x8_1 < (a0.size : Int)
        ·rw [if_pos c37] at H
         have c37b0 := decide_eq_true c37
         clear c37
         obtain ⟨c38, H⟩ := iteS H
         have c38b0 := decide_eq_true c38
         clear c38
         replace H := Option.bind_eq_some_iff.mp H
         obtain ⟨t281, A400, H⟩ := H
         try dsimp only at H
         have A40 := Aside0.mk A400
         clear A400
         by_cases c41 : t281 = true
         ·subst c41
          rw [if_pos rfl] at H
          have H' := Aside0.mk H
          clear H
          have p39 : 0 ≤ (x8_1 : Int) := od_
          have q39 : x8_1 < (a0.size : Int) := od_
          have hx39 := bt_at a0 x8_1
          replace p39 := eq_true p39
          replace q39 := eq_true q39
          go_wp2_with (first | (go_at_call 212; (with_reducible refine (lex_atomic.calls (bt a0 x8_1) true _ A40.out).mono ?_); rintro e w' ⟨rfl, ⟨nd, rfl⟩⟩))
          go_roundg k1
          case measure => have := HK1.out; omega
          case rel => exact ⟨(wrap64 (x8_1 + 1)), (by first | rfl | (simp; done) | (exact absurd c29b0 (by decide)) | (simp [*]; done)), H', ⟨by have := HK1.out; omega⟩, ⟨bkw BK271⟩, ⟨blw⟩⟩
         ·replace c41 := Bool.eq_false_iff.mpr c41
          subst c41
          rw [if_neg nft] at H
          by_cases c42 : x8_1 = 0
          ·rw [if_pos c42] at H
           have c42b0 := beq_iff_eq.mpr c42
           have c42b1 := bne_eq_false_iff_eq.mpr c42
           clear c42
           simp only [Option.some.injEq, Prod.mk.injEq] at H
           obtain ⟨rfl, rfl, rfl, rfl⟩ := H
           have p39 : 0 ≤ (x8_1 : Int) := od_
           have q39 : x8_1 < (a0.size : Int) := od_
           have hx39 := bt_at a0 x8_1
           replace p39 := eq_true p39
           replace q39 := eq_true q39
           go_wp2_with (first | (go_at_call 212; (with_reducible refine (lex_atomic.calls (bt a0 x8_1) false _ A40.out).mono ?_); rintro e w' ⟨rfl, ⟨nd, rfl⟩⟩; (try (rw [drewN_self wr]; generalize hq_ : World.drewN wr _ = wr; have n0_ : Aside0 (wr.heap[gb271]? = some (.cells #[.int .i64 0, .string (⟨#[]⟩ : ByteArray)] 238 (0, 0))) := ⟨by rw [← hq_]; exact (bkw BK271)⟩; have n1_ : Aside0 (Below w.heap.size w wr) := ⟨by rw [← hq_]; exact blw⟩; clear BK271 HB hq_; have BK271 := n0_; have HB := n1_; clear n0_ n1_)); have hcz43_0 : wr.cell? ⟨gb271, 0, none⟩ = some (.int .i64 0) := bk_ BK271; have hcz43_1 : wr.cell? ⟨gb271, 1, none⟩ = some (.string (⟨#[]⟩ : ByteArray)) := bk_ BK271; have hfz43_0 := blk_frozen BK271.out 0; have hfz43_1 := blk_frozen BK271.out 1))
           refine bodyPost_ret (results_ctt rfl _ _ gb271 238 #[.int .i64 0, .string (⟨#[]⟩ : ByteArray)] (0, 0) _ rfl (by (with_reducible repeat (first | refine blk_drewN ?_ _ | refine blk_drew ?_ | refine blk_alloc ?_ _)); refine blk_put (cs := #[.int .i64 0, .string (⟨#[]⟩ : ByteArray)]) ?_ 1 _ rfl; (with_reducible repeat (first | refine blk_drewN ?_ _ | refine blk_drew ?_ | refine blk_alloc ?_ _)); refine blk_put (cs := #[.int .i64 0, .string (⟨#[]⟩ : ByteArray)]) ?_ 0 _ rfl; (with_reducible repeat (first | refine blk_drewN ?_ _ | refine blk_drew ?_ | refine blk_alloc ?_ _)); exact BK271.out) Tryz.underlying238 rfl (by kernel_rfl)) rfl ?_
           exact ⟨by first | rfl | (simp [errW_none, errW_some] <;> rfl) | (simp [*, errW_none, errW_some] <;> rfl), blw⟩
          ·rw [if_neg c42] at H
           have c42b0 := beq_eq_false_iff_ne.mpr c42
           have c42b1 := bne_iff_ne.mpr c42
           have c44b0 := eq_true (od_ : 0 ≤ x8_1)
           obtain ⟨c45, H⟩ := iteS H
           have c45b0 := eq_true c45
           have c45b1 := decide_eq_true c45
           clear c45
           have c46b0 := eq_true (od_ : 0 ≤ x8_1)
           have c47b0 := eq_true (od_ : x8_1 ≤ (a0.size : Int))
           simp only [Option.some.injEq, Prod.mk.injEq] at H
           obtain ⟨rfl, rfl, rfl, rfl⟩ := H
           have p39 : 0 ≤ (x8_1 : Int) := od_
           have q39 : x8_1 < (a0.size : Int) := od_
           have hx39 := bt_at a0 x8_1
           replace p39 := eq_true p39
           replace q39 := eq_true q39
           try go_wp2_with (first | (go_at_call 212; (with_reducible refine (lex_atomic.calls (bt a0 x8_1) false _ A40.out).mono ?_); rintro e w' ⟨rfl, ⟨nd, rfl⟩⟩; (try (rw [drewN_self wr]; generalize hq_ : World.drewN wr _ = wr; have n0_ : Aside0 (wr.heap[gb271]? = some (.cells #[.int .i64 0, .string (⟨#[]⟩ : ByteArray)] 238 (0, 0))) := ⟨by rw [← hq_]; exact (bkw BK271)⟩; have n1_ : Aside0 (Below w.heap.size w wr) := ⟨by rw [← hq_]; exact blw⟩; clear BK271 HB hq_; have BK271 := n0_; have HB := n1_; clear n0_ n1_))))
           replace BK271 := Aside0.mk (blk_drew BK271.out)
           replace HB := Aside0.mk (below_drew1 HB.out)
           refine start_ (n := 10) (S := fun w' => True) (ds := []) (ba 10 0) (by kernel_rfl) rfl rfl trivial (fun hHeld => ?_); refine with_tabW lex_next.tab18 lex_next.bits18 (fun HT_ HW_ => ?_)
           generalize wr.drew = w48 at BK271 HB hHeld ⊢
           refine pu_ 0 65 1 ?_
           refine pu_ 1 66 3 ?_
           refine pu_ 2 67 7 ?_
           refine pu_ 3 68 15 ?_
           refine pu_ 4 69 31 ?_
           refine pu_ 5 70 63 ?_
           refine pu_ 6 71 127 ?_
           refine one1 7 none 255 (fun K hK => ?_)
           have hs49 : w48.cell? ⟨gb271, 0, none⟩ = some (.int .i64 0) := bk_ BK271
           have hfs49 := blk_frozen BK271.out 0
           have hs50 : w48.cell? ⟨gb271, 1, none⟩ = some (.string (⟨#[]⟩ : ByteArray)) := bk_ BK271
           have hfs50 := blk_frozen BK271.out 1
           refine skip_ (w1 := ?_) (by rfl) rfl ?_ ?_
           rotate_left
           ·go_simp
            rfl
           refine hK.out _ _ trivial (fun hHeld => ?_)
           clear hK K
           refine pu_ 8 3 511 ?_
           refine pu_ 9 4 1023 ?_
           refine done_ (done_of HT_.out (by kernel_rfl)) ?_
           try go_wp2
           refine bodyPost_ret (results_ctt rfl _ _ gb271 238 #[.int .i64 1, .string (a0.extract 0 (x8_1 : Int).toNat)] (0, 0) _ rfl (by (with_reducible repeat (first | refine blk_drewN ?_ _ | refine blk_drew ?_ | refine blk_alloc ?_ _)); refine blk_put (cs := #[.int .i64 1, .string (⟨#[]⟩ : ByteArray)]) ?_ 1 _ rfl; (with_reducible repeat (first | refine blk_drewN ?_ _ | refine blk_drew ?_ | refine blk_alloc ?_ _)); refine blk_put (cs := #[.int .i64 0, .string (⟨#[]⟩ : ByteArray)]) ?_ 0 _ rfl; (with_reducible repeat (first | refine blk_drewN ?_ _ | refine blk_drew ?_ | refine blk_alloc ?_ _)); exact BK271.out) Tryz.underlying238 rfl (by kernel_rfl)) rfl ?_
           exact ⟨by first | rfl | (simp [errW_none, errW_some] <;> rfl) | (simp [*, errW_none, errW_some] <;> rfl), blw⟩
        ·rw [if_neg c37] at H
         have c37b0 := decide_eq_false c37
         clear c37
         by_cases c51 : x8_1 = 0
         ·rw [if_pos c51] at H
          have c51b0 := beq_iff_eq.mpr c51
          have c51b1 := bne_eq_false_iff_eq.mpr c51
          clear c51
          simp only [Option.some.injEq, Prod.mk.injEq] at H
          obtain ⟨rfl, rfl, rfl, rfl⟩ := H
          have hcz52_0 : wr.cell? ⟨gb271, 0, none⟩ = some (.int .i64 0) := bk_ BK271
          have hcz52_1 : wr.cell? ⟨gb271, 1, none⟩ = some (.string (⟨#[]⟩ : ByteArray)) := bk_ BK271
          have hfz52_0 := blk_frozen BK271.out 0
          have hfz52_1 := blk_frozen BK271.out 1
          go_wp2
          refine bodyPost_ret (results_ctt rfl _ _ gb271 238 #[.int .i64 0, .string (⟨#[]⟩ : ByteArray)] (0, 0) _ rfl (by (with_reducible repeat (first | refine blk_drewN ?_ _ | refine blk_drew ?_ | refine blk_alloc ?_ _)); refine blk_put (cs := #[.int .i64 0, .string (⟨#[]⟩ : ByteArray)]) ?_ 1 _ rfl; (with_reducible repeat (first | refine blk_drewN ?_ _ | refine blk_drew ?_ | refine blk_alloc ?_ _)); refine blk_put (cs := #[.int .i64 0, .string (⟨#[]⟩ : ByteArray)]) ?_ 0 _ rfl; (with_reducible repeat (first | refine blk_drewN ?_ _ | refine blk_drew ?_ | refine blk_alloc ?_ _)); exact BK271.out) Tryz.underlying238 rfl (by kernel_rfl)) rfl ?_
          exact ⟨by first | rfl | (simp [errW_none, errW_some] <;> rfl) | (simp [*, errW_none, errW_some] <;> rfl), blw⟩
         ·rw [if_neg c51] at H
          have c51b0 := beq_eq_false_iff_ne.mpr c51
          have c51b1 := bne_iff_ne.mpr c51
          obtain ⟨c53, H⟩ := iteS H
          have c53b0 := eq_true c53
          have c53b1 := decide_eq_true c53
          clear c53
          obtain ⟨c54, H⟩ := iteS H
          have c54b0 := eq_true c54
          have c54b1 := decide_eq_true c54
          clear c54
          have c55b0 := eq_true (od_ : 0 ≤ x8_1)
          have c56b0 := eq_true (od_ : x8_1 ≤ (a0.size : Int))
          simp only [Option.some.injEq, Prod.mk.injEq] at H
          obtain ⟨rfl, rfl, rfl, rfl⟩ := H
          try go_wp2
          replace BK271 := Aside0.mk (blk_drew BK271.out)
          replace HB := Aside0.mk (below_drew1 HB.out)
          refine start_ (n := 10) (S := fun w' => True) (ds := []) (ba 10 0) (by kernel_rfl) rfl rfl trivial (fun hHeld => ?_); refine with_tabW lex_next.tab18 lex_next.bits18 (fun HT_ HW_ => ?_)
          generalize wr.drew = w57 at BK271 HB hHeld ⊢
          refine pu_ 0 65 1 ?_
          refine pu_ 1 66 3 ?_
          refine pu_ 2 67 7 ?_
          refine pu_ 3 68 15 ?_
          refine pu_ 4 69 31 ?_
          refine pu_ 5 70 63 ?_
          refine pu_ 6 71 127 ?_
          refine one1 7 none 255 (fun K hK => ?_)
          have hs58 : w57.cell? ⟨gb271, 0, none⟩ = some (.int .i64 0) := bk_ BK271
          have hfs58 := blk_frozen BK271.out 0
          have hs59 : w57.cell? ⟨gb271, 1, none⟩ = some (.string (⟨#[]⟩ : ByteArray)) := bk_ BK271
          have hfs59 := blk_frozen BK271.out 1
          refine skip_ (w1 := ?_) (by rfl) rfl ?_ ?_
          rotate_left
          ·go_simp
           rfl
          refine hK.out _ _ trivial (fun hHeld => ?_)
          clear hK K
          refine pu_ 8 3 511 ?_
          refine pu_ 9 4 1023 ?_
          refine done_ (done_of HT_.out (by kernel_rfl)) ?_
          try go_wp2
          refine bodyPost_ret (results_ctt rfl _ _ gb271 238 #[.int .i64 1, .string (a0.extract 0 (x8_1 : Int).toNat)] (0, 0) _ rfl (by (with_reducible repeat (first | refine blk_drewN ?_ _ | refine blk_drew ?_ | refine blk_alloc ?_ _)); refine blk_put (cs := #[.int .i64 1, .string (⟨#[]⟩ : ByteArray)]) ?_ 1 _ rfl; (with_reducible repeat (first | refine blk_drewN ?_ _ | refine blk_drew ?_ | refine blk_alloc ?_ _)); refine blk_put (cs := #[.int .i64 0, .string (⟨#[]⟩ : ByteArray)]) ?_ 0 _ rfl; (with_reducible repeat (first | refine blk_drewN ?_ _ | refine blk_drew ?_ | refine blk_alloc ?_ _)); exact BK271.out) Tryz.underlying238 rfl (by kernel_rfl)) rfl ?_
          exact ⟨by first | rfl | (simp [errW_none, errW_some] <;> rfl) | (simp [*, errW_none, errW_some] <;> rfl), blw⟩
/-! ### lex_Scan: function 142 -/
def lex_Scan.l0 : Nat → ByteArray → List (S238) → Option ((List (S238)) × Int)
  | 0, _, _ => none
  | k + 1, x0, x4 => if x0.toList = ([] : List UInt8) then (some (x4, 0)) else ((lex_next.f k x0).bind fun bt282 => (if bt282.2.2.2 = 0 then (if bt282.1 = 0 then (lex_Scan.l0 k bt282.2.2.1 x4) else (if x4.length < 5864062014805 then (lex_Scan.l0 k bt282.2.2.1 (x4 ++ [(⟨bt282.1, bt282.2.1⟩ : S238)])) else (none))) else (some (([] : List (S238)), bt282.2.2.2))))
def lex_Scan.f (k : Nat) (a0 : ByteArray) : Option ((List (S238)) × Int) := lex_Scan.l0 k a0 ([] : List (S238))
theorem lex_Scan.mono_l : ∀ k, (∀ y0 y1, LeO (lex_Scan.l0 k y0 y1) (lex_Scan.l0 (k + 1) y0 y1))
  | 0 => fun _ _ r h => by simp [lex_Scan.l0] at h
  | k + 1 => by
    have ih0 := lex_Scan.mono_l k
    · intro y0 y1
      unfold lex_Scan.l0
      repeat' first | (with_reducible first | exact ih0 _ _ | exact lex_next.mono _ _ | exact LeO.refl _ | exact LeO.none _ | refine LeO.ite ?_ ?_ | refine LeO.bind ?_ (fun _ => ?_)) | exact ih0 _ _ | exact lex_next.mono _ _ | exact LeO.none _ | refine LeO.ite ?_ ?_ | refine LeO.bind ?_ (fun _ => ?_)
theorem lex_Scan.mono : ∀ a0 k, LeO (lex_Scan.f k a0) (lex_Scan.f (k + 1) a0) := by
  intro a0 k
  have ih0 := lex_Scan.mono_l k
  unfold lex_Scan.f
  repeat' first | (with_reducible first | exact ih0 _ _ | exact lex_next.mono _ _ | exact LeO.refl _ | exact LeO.none _ | refine LeO.ite ?_ ?_ | refine LeO.bind ?_ (fun _ => ?_)) | exact ih0 _ _ | exact lex_next.mono _ _ | exact LeO.none _ | refine LeO.ite ?_ ?_ | refine LeO.bind ?_ (fun _ => ?_)
set_option maxHeartbeats 8000000 in
set_option maxRecDepth 100000 in
theorem lex_Scan.calls (k : Nat) (a0 : ByteArray) (r1 : List (S238)) (r2 : Int) (w : World) (h : lex_Scan.f k a0 = some (r1, r2)) :
    Calls Tryz.prog 142 #[.string a0] w fun e w' => ∃ v0_ : Value, e = .returned (.tuple #[v0_, .int .i64 r2]) ∧ Kd.R k238 238 w' w.heap.size (fun _ => True) v0_ r1 ∧ Below w.heap.size w w' := by
 have hu238 := Tryz.underlying238
 have HB := Aside0.mk (Below.refl w.heap.size w)
 unfold lex_Scan.f at h
 have H := h
 clear h
 have H' := Aside0.mk H
 clear H
 go_enter Tryz.func142, Tryz.ntmps142
 go_wp2
 go_loopg [0, 4] k (fun kq v0 v4 w' => ∃ (x0_1 : ByteArray) (x4_1 : List (S238)), v0 = .string x0_1 ∧ Aside0 (lex_Scan.l0 kq x0_1 x4_1 = some (r1, r2)) ∧ Aside0 (kq ≤ k) ∧ Aside0 (Kd.R k238 238 w' w.heap.size (fun _ => True) v4 x4_1) ∧ Aside0 (Below w.heap.size w w'))
 case atStart => exact ⟨(a0), (([] : List (S238))), (by first | rfl | (simp; done) | (simp [*]; done) | (simp; exact (by intro l_; cases l_ <;> rfl : ∀ l_ : List UInt8, l_.isEmpty = !(l_ != [])) _)), H', ⟨Nat.le_refl _⟩, ⟨by first | exact Kd.R_nil _ _ _ _ _ | exact Kd.N_nil _ _ _ _ _ | exact Kd.V_nil _ _ _ _ _ | exact Kd.Q_nil _ _ _ _ _ | exact Kd.S_nil _ _ _ _ _⟩, ⟨blw⟩⟩
 case round =>
  clear H'
  try clear c1
  obtain ⟨x0_1, x4_1, rfl, HA, HK1, HO_4, HB⟩ := hrel
  cases gk with
  | zero => exact absurd HA.out (by simp [lex_Scan.l0])
  | succ k1 =>
   have H := HA.out
   clear HA
   simp only [lex_Scan.l0] at H
   by_cases c2 : x0_1.toList = ([] : List UInt8)
   ·rw [if_pos c2] at H
    have c2b0 := beq_iff_eq.mpr c2
    have c2b1 := bne_eq_false_iff_eq.mpr c2
    clear c2
    simp only [Option.some.injEq, Prod.mk.injEq] at H
    obtain ⟨rfl, rfl⟩ := H
    go_wp2
    go_ret2
    exact ⟨_, by first | rfl | (simp [errW_none, errW_some] <;> rfl) | (simp [*, errW_none, errW_some] <;> rfl), by (with_reducible repeat (first | apply Kd.R_alloc | apply Kd.R_drewN | apply Kd.R_drew)); exact HO_4.out, blw⟩
   ·rw [if_neg c2] at H
    have c2b0 := beq_eq_false_iff_ne.mpr c2
    have c2b1 := bne_iff_ne.mpr c2
    replace H := Option.bind_eq_some_iff.mp H
    obtain ⟨⟨t282, t283, t284, t285⟩, A30, H⟩ := H
    try dsimp only at H
    have A3 := Aside0.mk A30
    clear A30
    by_cases c4 : t285 = 0
    ·rw [if_pos c4] at H
     have c4b0 := beq_iff_eq.mpr c4
     have c4b1 := bne_eq_false_iff_eq.mpr c4
     clear c4
     by_cases c5 : t282 = 0
     ·rw [if_pos c5] at H
      have c5b0 := beq_iff_eq.mpr c5
      have c5b1 := bne_eq_false_iff_eq.mpr c5
      clear c5
      have H' := Aside0.mk H
      clear H
      go_wp2_with (first | ((with_reducible refine gc 183 rfl ?_); refine cl_ (some 12) Tryz.func183 (lex_next.calls k1 x0_1 t282 t283 t284 t285 _ A3.out) ?_; rintro w6 hb; replace HO_4 := Aside0.mk (Kd.R_below (by (with_reducible repeat (first | apply Kd.R_alloc | apply Kd.R_drewN | apply Kd.R_drew)); exact HO_4.out) hb); replace HB := Aside0.mk (below_step blw hb); (try clear hb)) | ((with_reducible refine gate_dst (N := 5) rfl ?_); refine box_event ?hg (N := 5) ?hd (cs := #[.int .i64 0, .string (⟨#[]⟩ : ByteArray)]) (t := 238) ?hr ?_; (case hd => rfl); (case hg => rfl); (case hr => first | (go_simp; done) | (go_simp; rfl)); intro gb286 hg w7 hbox hb; replace HO_4 := Aside0.mk (Kd.R_below (Kd.R_elderB (by (with_reducible repeat (first | apply Kd.R_alloc | apply Kd.R_drewN | apply Kd.R_drew)); exact HO_4.out) gb286 (Nat.le_of_eq hg.symm)) hb); have BK286 := Aside0.mk (hbox); have GW286 : Aside0 (w.heap.size ≤ gb286) := gw_ hg; have GE286 : Aside0 (w.heap.size ≤ gb286) := gw_ hg; replace HB := Aside0.mk (below_step blw hb); clear hb hbox hg; have hcz8_0 : w7.cell? ⟨gb286, 0, none⟩ = some (.int .i64 0) := bk_ BK286; have hcz8_1 : w7.cell? ⟨gb286, 1, none⟩ = some (.string (⟨#[]⟩ : ByteArray)) := bk_ BK286; have hfz8_0 := blk_frozen BK286.out 0; have hfz8_1 := blk_frozen BK286.out 1))
      go_roundg k1
      case measure => have := HK1.out; omega
      case rel => exact ⟨(t284), (x4_1), (by first | rfl | (simp; done) | (simp [*]; done) | (simp; exact (by intro l_; cases l_ <;> rfl : ∀ l_ : List UInt8, l_.isEmpty = !(l_ != [])) _)), H', ⟨by have := HK1.out; omega⟩, ⟨by (with_reducible repeat (first | apply Kd.R_alloc | apply Kd.R_drewN | apply Kd.R_drew)); exact Kd.R_mono (Kd.R_far (p := ⟨gb286, 1, none⟩) (Kd.R_far (p := ⟨gb286, 0, none⟩) (Kd.R_mono HO_4.out (fun k_ hk => (⟨hk, hk.2⟩ : _ ∧ k_ ≠ gb286))) (fun _ hk => hk.2) (.int .i64 t282)) (fun _ hk => hk.2) (.string t283)) (fun _ hk => trivial)⟩, ⟨blw⟩⟩
     ·rw [if_neg c5] at H
      have c5b0 := beq_eq_false_iff_ne.mpr c5
      have c5b1 := bne_iff_ne.mpr c5
      obtain ⟨c9, H⟩ := iteS H
      have LMc9 := Aside0.mk c9
      clear c9
      obtain ⟨y287, hy287⟩ : ∃ y_ : List (S238), y_ = (x4_1 ++ [(⟨t282, t283⟩ : S238)]) := ⟨_, rfl⟩
      replace H : (lex_Scan.l0 k1 t284 y287) = some (r1, r2) := by first | (rw [hy287]; with_reducible exact H) | (have H2_ := (Option.bind_some _ _).symm.trans H; rw [hy287]; with_reducible exact H2_) | (have H2_ := (Option.bind_some _ _).symm.trans H; with_reducible exact H2_) | with_reducible exact H | (rw [hy287]; exact H) | exact H
      have Ny287 := Aside0.mk hy287
      clear hy287
      have H' := Aside0.mk H
      clear H
      go_wp2_with (first | ((with_reducible refine gc 183 rfl ?_); refine cl_ (some 12) Tryz.func183 (lex_next.calls k1 x0_1 t282 t283 t284 t285 _ A3.out) ?_; rintro w10 hb; replace HO_4 := Aside0.mk (Kd.R_below (by (with_reducible repeat (first | apply Kd.R_alloc | apply Kd.R_drewN | apply Kd.R_drew)); exact HO_4.out) hb); replace HB := Aside0.mk (below_step blw hb); (try clear hb)) | ((with_reducible refine gate_dst (N := 5) rfl ?_); refine box_event ?hg (N := 5) ?hd (cs := #[.int .i64 0, .string (⟨#[]⟩ : ByteArray)]) (t := 238) ?hr ?_; (case hd => rfl); (case hg => rfl); (case hr => first | (go_simp; done) | (go_simp; rfl)); intro gb286 hg w11 hbox hb; replace HO_4 := Aside0.mk (Kd.R_below (Kd.R_elderB (by (with_reducible repeat (first | apply Kd.R_alloc | apply Kd.R_drewN | apply Kd.R_drew)); exact HO_4.out) gb286 (Nat.le_of_eq hg.symm)) hb); have BK286 := Aside0.mk (hbox); have GW286 : Aside0 (w.heap.size ≤ gb286) := gw_ hg; have GE286 : Aside0 (w.heap.size ≤ gb286) := gw_ hg; replace HB := Aside0.mk (below_step blw hb); clear hb hbox hg; have hcz12_0 : w11.cell? ⟨gb286, 0, none⟩ = some (.int .i64 0) := bk_ BK286; have hcz12_1 : w11.cell? ⟨gb286, 1, none⟩ = some (.string (⟨#[]⟩ : ByteArray)) := bk_ BK286; have hfz12_0 := blk_frozen BK286.out 0; have hfz12_1 := blk_frozen BK286.out 1) | ((with_reducible refine gate_builtin (b := .append) (xs := #[.tmp 22, .tmp 24]) rfl ?_); at_builtin; refine Kd.R_append k238 (w0 := w) w.heap.size rfl (.tmp 22) (.tmp 24) 199 238 (.agg #[(.int .i64 0), (.string ⟨#[]⟩)]) 24 rfl Tryz.underlying199 info238 rfl (by decide) (by omega) u4 x4_1 (⟨t282, t283⟩ : S238) [.int .i64 t282, .string t283] (fun k_ => k_ ≠ gb286) (fun _ => False) rfl (by first | (go_simp; done) | (go_simp; rfl)) ?aP (fun _ hk => hk.elim) ?aF ?aO ?aB ?aS ?aL ?_; (case aP => exact k238_mkM _ _ _ (⟨t282, t283⟩ : S238)); (case aB => exact blw); (case aF => exact (fun k_ hk => Kd.freshB (g := gb286) (o := .cells #[.int .i64 t282, .string t283] 238 (0, 0)) (by (with_reducible repeat (first | refine blk_drewN ?_ _ | refine blk_drew ?_ | refine blk_alloc ?_ _)); refine blk_put (cs := #[.int .i64 t282, .string (⟨#[]⟩ : ByteArray)]) ?_ 1 _ rfl; (with_reducible repeat (first | refine blk_drewN ?_ _ | refine blk_drew ?_ | refine blk_alloc ?_ _)); refine blk_put (cs := #[.int .i64 0, .string (⟨#[]⟩ : ByteArray)]) ?_ 0 _ rfl; (with_reducible repeat (first | refine blk_drewN ?_ _ | refine blk_drew ?_ | refine blk_alloc ?_ _)); exact BK286.out) k_ hk)); (case aO => exact (by (with_reducible repeat (first | apply Kd.R_alloc | apply Kd.R_drewN | apply Kd.R_drew)); exact Kd.R_mono (Kd.R_far (p := ⟨gb286, 1, none⟩) (Kd.R_far (p := ⟨gb286, 0, none⟩) (Kd.R_mono HO_4.out (fun k_ hk => (⟨hk, hk.2⟩ : _ ∧ k_ ≠ gb286))) (fun _ hk => hk.2) (.int .i64 t282)) (fun _ hk => hk.2) (.string t283)) (fun _ hk => hk.1.2))); (case aS => exact (below_size blw)); (case aL => have := LMc9.out; omega); intro v288 w13 ho hb hg hat; rw [← Ny287.out] at ho; have n0_ := Aside0.mk (blk_grown (g := gb286) (o := .cells #[.int .i64 t282, .string t283] 238 (0, 0)) (by (with_reducible repeat (first | refine blk_drewN ?_ _ | refine blk_drew ?_ | refine blk_alloc ?_ _)); refine blk_put (cs := #[.int .i64 t282, .string (⟨#[]⟩ : ByteArray)]) ?_ 1 _ rfl; (with_reducible repeat (first | refine blk_drewN ?_ _ | refine blk_drew ?_ | refine blk_alloc ?_ _)); refine blk_put (cs := #[.int .i64 0, .string (⟨#[]⟩ : ByteArray)]) ?_ 0 _ rfl; (with_reducible repeat (first | refine blk_drewN ?_ _ | refine blk_drew ?_ | refine blk_alloc ?_ _)); exact BK286.out) hg (Kd.R_away HO_4.out (fun _ hk => hk.2))); have n1_ := Aside0.mk (hb); have n2_ := Aside0.mk (ho); clear BK286; clear HB; clear HO_4; have BK286 := n0_; have HB := n1_; have HO289 := n2_; clear n0_ n1_ n2_; clear ho hb hg hat))
      go_roundg k1
      case measure => have := HK1.out; omega
      case rel => exact ⟨(t284), (y287), (by first | rfl | (simp; done) | (simp [*]; done) | (simp; exact (by intro l_; cases l_ <;> rfl : ∀ l_ : List UInt8, l_.isEmpty = !(l_ != [])) _)), H', ⟨by have := HK1.out; omega⟩, ⟨by (with_reducible repeat (first | apply Kd.R_alloc | apply Kd.R_drewN | apply Kd.R_drew)); exact Kd.R_mono HO289.out (fun _ hk => trivial)⟩, ⟨blw⟩⟩
    ·rw [if_neg c4] at H
     have c4b0 := beq_eq_false_iff_ne.mpr c4
     have c4b1 := bne_iff_ne.mpr c4
     simp only [Option.some.injEq, Prod.mk.injEq] at H
     obtain ⟨rfl, rfl⟩ := H
     go_wp2_with (first | ((with_reducible refine gc 183 rfl ?_); refine cl_ (some 12) Tryz.func183 (lex_next.calls k1 x0_1 t282 t283 t284 t285 _ A3.out) ?_; rintro w14 hb; replace HO_4 := Aside0.mk (Kd.R_below (by (with_reducible repeat (first | apply Kd.R_alloc | apply Kd.R_drewN | apply Kd.R_drew)); exact HO_4.out) hb); replace HB := Aside0.mk (below_step blw hb); (try clear hb)) | ((with_reducible refine gate_dst (N := 5) rfl ?_); refine box_event ?hg (N := 5) ?hd (cs := #[.int .i64 0, .string (⟨#[]⟩ : ByteArray)]) (t := 238) ?hr ?_; (case hd => rfl); (case hg => rfl); (case hr => first | (go_simp; done) | (go_simp; rfl)); intro gb286 hg w15 hbox hb; replace HO_4 := Aside0.mk (Kd.R_below (Kd.R_elderB (by (with_reducible repeat (first | apply Kd.R_alloc | apply Kd.R_drewN | apply Kd.R_drew)); exact HO_4.out) gb286 (Nat.le_of_eq hg.symm)) hb); have BK286 := Aside0.mk (hbox); have GW286 : Aside0 (w.heap.size ≤ gb286) := gw_ hg; have GE286 : Aside0 (w.heap.size ≤ gb286) := gw_ hg; replace HB := Aside0.mk (below_step blw hb); clear hb hbox hg; have hcz16_0 : w15.cell? ⟨gb286, 0, none⟩ = some (.int .i64 0) := bk_ BK286; have hcz16_1 : w15.cell? ⟨gb286, 1, none⟩ = some (.string (⟨#[]⟩ : ByteArray)) := bk_ BK286; have hfz16_0 := blk_frozen BK286.out 0; have hfz16_1 := blk_frozen BK286.out 1))
     go_ret2
     exact ⟨_, by first | rfl | (simp [errW_none, errW_some] <;> rfl) | (simp [*, errW_none, errW_some] <;> rfl), by first | exact Kd.R_nil _ _ _ _ _ | exact Kd.N_nil _ _ _ _ _ | exact Kd.V_nil _ _ _ _ _ | exact Kd.Q_nil _ _ _ _ _ | exact Kd.S_nil _ _ _ _ _, blw⟩
end Go.Proofs.YtpniccllpfonfaaGreatDoor.Q
