-- Written by a program of this session (wip/myprint) out of the translation, for YtcpmoolpbeeedaaGreatDoor.
import Derived.Test.YtcpmoolpbeeedaaGreatDoorQ0
import Derived.Test.YtcpmoolpbeeedaaGreatDoorQ4
import Derived.Test.YtcpmoolpbeeedaaGreatDoorQ10
namespace Go.Proofs.YtcpmoolpbeeedaaGreatDoor.Q
open Go.RowKit Go.Proofs.YtcpmoolpbeeedaaGreatDoorW.PrintWords Go.Proofs.YtcpmoolpbeeedaaGreatDoorW.PrintLast Go.Proofs.YtcpmoolpbeeedaaGreatDoorW.PrintMore Go.Proofs.YtcpmoolpbeeedaaGreatDoorW.PrintSq
attribute [local go_sem] max2_int min2_int max_two min_two max_three min_three max_four min_four   -- for this text's walks alone
set_option linter.unusedVariables false
set_option linter.unusedSimpArgs false

/-! ### lex_escaped: function 177 -/
def lex_escaped.f (a0 : ByteArray) : Option (Int) := if a0.toList = ([] : List UInt8) then (some 9) else (if 0 < (a0.size : Int) then ((lex_text.f (bt a0 0)).bind fun t196 => (if t196 = true then (some 0) else (some 3))) else (none))
set_option maxHeartbeats 8000000 in
set_option maxRecDepth 100000 in
theorem lex_escaped.calls (a0 : ByteArray) (r : Int) (w : World) (h : lex_escaped.f a0 = some r) :
    Calls Tryz.prog 177 #[.string a0] w fun e w' => e = .returned (.int .i64 r) ∧ Drawn0 w w' := by
 unfold lex_escaped.f at h
 have H := h
 clear h
 by_cases c2 : a0.toList = ([] : List UInt8)
 ·rw [if_pos c2] at H
  have c2b0 := beq_iff_eq.mpr c2
  have c2b1 := bne_eq_false_iff_eq.mpr c2
  clear c2
  obtain rfl := Option.some.inj H
  go_enter Tryz.func177, Tryz.ntmps177
  go_wp2
  go_ret
  exact ⟨by first | rfl | (simp; done) | (simp [*]; done) | (simp; exact (by intro l_; cases l_ <;> rfl : ∀ l_ : List UInt8, l_.isEmpty = !(l_ != [])) _), drw⟩
 ·rw [if_neg c2] at H
  have c2b0 := beq_eq_false_iff_ne.mpr c2
  have c2b1 := bne_iff_ne.mpr c2
  obtain ⟨c3, H⟩ := iteS H
  have c3b0 := decide_eq_true c3
  have c3b1 : decide (0 < a0.size) = true := decide_eq_true (by omega)
  clear c3
  replace H := Option.bind_eq_some_iff.mp H
  obtain ⟨t196, A50, H⟩ := H
  try dsimp only at H
  have A5 := Aside0.mk A50
  clear A50
  by_cases c6 : t196 = true
  ·subst c6
   rw [if_pos rfl] at H
   obtain rfl := Option.some.inj H
   have p4 : 0 ≤ (0 : Int) := (by omega)
   have q4 : 0 < a0.size := (by have : (0 : Int) < (a0.size : Int) := od_; omega)
   have hx4 : ∀ h : 0 < a0.size, ((a0[0]'h).toNat : Int) = bt a0 0 := bt_at a0 0
   clear p4
   have qi4 : (0 < (a0.size : Int)) = True := eq_true (od_)
   replace q4 := eq_true q4
   go_enter Tryz.func177, Tryz.ntmps177
   go_wp2_with (first | ((with_reducible refine gc 83 rfl ?_); refine cl_ (some 9) Tryz.func83 (lex_text.calls (bt a0 0) true _ A5.out) ?_; rintro w' ⟨nd, rfl⟩))
   go_ret
   exact ⟨by first | rfl | (simp; done) | (simp [*]; done) | (simp; exact (by intro l_; cases l_ <;> rfl : ∀ l_ : List UInt8, l_.isEmpty = !(l_ != [])) _), drw⟩
  ·replace c6 := Bool.eq_false_iff.mpr c6
   subst c6
   rw [if_neg nft] at H
   obtain rfl := Option.some.inj H
   have p4 : 0 ≤ (0 : Int) := (by omega)
   have q4 : 0 < a0.size := (by have : (0 : Int) < (a0.size : Int) := od_; omega)
   have hx4 : ∀ h : 0 < a0.size, ((a0[0]'h).toNat : Int) = bt a0 0 := bt_at a0 0
   clear p4
   have qi4 : (0 < (a0.size : Int)) = True := eq_true (od_)
   replace q4 := eq_true q4
   go_enter Tryz.func177, Tryz.ntmps177
   go_wp2_with (first | ((with_reducible refine gc 83 rfl ?_); refine cl_ (some 9) Tryz.func83 (lex_text.calls (bt a0 0) false _ A5.out) ?_; rintro w' ⟨nd, rfl⟩))
   go_ret
   exact ⟨by first | rfl | (simp; done) | (simp [*]; done) | (simp; exact (by intro l_; cases l_ <;> rfl : ∀ l_ : List UInt8, l_.isEmpty = !(l_ != [])) _), drw⟩

/-! ### lex_comment: function 168 -/
mutual
def lex_comment.l0 : Nat → ByteArray → Int → Int → Option (ByteArray × Int)
  | 0, _, _, _ => none
  | k + 1, x0, x4, x5 => if x5 < (x0.size : Int) then (if 0 ≤ x5 then (if x5 ≤ (x0.size : Int) then ((lex_fold.f (x0.extract (x5 : Int).toNat x0.size)).bind fun t197 => (if t197 = true then (lex_comment.l0 k x0 x4 (wrap64 ((wrap64 (x5 + 1)) + 1))) else (if (bt x0 x5) = 92 then (if 0 ≤ (wrap64 (x5 + 1)) then (if (wrap64 (x5 + 1)) ≤ (x0.size : Int) then ((lex_escaped.f (x0.extract ((wrap64 (x5 + 1)) : Int).toNat x0.size)).bind fun t198 => (if t198 = 0 then (lex_comment.l0 k x0 x4 (wrap64 ((wrap64 (x5 + 1)) + 1))) else (some ((⟨#[]⟩ : ByteArray), t198)))) else (none)) else (none)) else (if (bt x0 x5) = 40 then (lex_comment.j1 k x0 x4 x5 (bt x0 x5) (x4 == 16)) else (lex_comment.j1 k x0 x4 x5 (bt x0 x5) false))))) else (none)) else (none)) else (if x4 > 0 then (some ((⟨#[]⟩ : ByteArray), 9)) else (some (x0, 0)))
def lex_comment.j1 : Nat → ByteArray → Int → Int → Int → Bool → Option (ByteArray × Int)
  | 0, _, _, _, _, _ => none
  | k + 1, x0, x4, x5, x6, x36 => if x36 = true then (some ((⟨#[]⟩ : ByteArray), 1)) else (if x6 = 40 then (lex_comment.l0 k x0 (wrap64 (x4 + 1)) (wrap64 (x5 + 1))) else (if x6 = 41 then (lex_comment.j2 k x0 x4 x5 x6 (x4 == 1)) else (lex_comment.j2 k x0 x4 x5 x6 false)))
def lex_comment.j2 : Nat → ByteArray → Int → Int → Int → Bool → Option (ByteArray × Int)
  | 0, _, _, _, _, _ => none
  | k + 1, x0, x4, x5, x6, x48 => if x48 = true then (if 0 ≤ (wrap64 (x5 + 1)) then (if (wrap64 (x5 + 1)) ≤ (x0.size : Int) then (if 0 > 0 then (some ((⟨#[]⟩ : ByteArray), 9)) else (some (x0.extract ((wrap64 (x5 + 1)) : Int).toNat x0.size, 0))) else (none)) else (none)) else (if x6 = 41 then (lex_comment.l0 k x0 (wrap64 (x4 - 1)) (wrap64 (x5 + 1))) else ((lex_text.f x6).bind fun t199 => (if t199 = true then (lex_comment.l0 k x0 x4 (wrap64 (x5 + 1))) else (some ((⟨#[]⟩ : ByteArray), 3)))))
end
def lex_comment.f (k : Nat) (a0 : ByteArray) : Option (ByteArray × Int) := lex_comment.l0 k a0 0 0
theorem lex_comment.mono_l : ∀ k, (∀ y0 y1 y2, LeO (lex_comment.l0 k y0 y1 y2) (lex_comment.l0 (k + 1) y0 y1 y2)) ∧ (∀ y0 y1 y2 y3 y4, LeO (lex_comment.j1 k y0 y1 y2 y3 y4) (lex_comment.j1 (k + 1) y0 y1 y2 y3 y4)) ∧ (∀ y0 y1 y2 y3 y4, LeO (lex_comment.j2 k y0 y1 y2 y3 y4) (lex_comment.j2 (k + 1) y0 y1 y2 y3 y4))
  | 0 => ⟨fun _ _ _ r h => by simp [lex_comment.l0] at h, fun _ _ _ _ _ r h => by simp [lex_comment.j1] at h, fun _ _ _ _ _ r h => by simp [lex_comment.j2] at h⟩
  | k + 1 => by
    obtain ⟨ih0, ih1, ih2⟩ := lex_comment.mono_l k
    refine ⟨?_, ?_, ?_⟩
    · intro y0 y1 y2
      unfold lex_comment.l0
      repeat' first | (with_reducible first | exact ih0 _ _ _ | exact ih1 _ _ _ _ _ | exact ih2 _ _ _ _ _ | exact LeO.refl _ | exact LeO.none _ | refine LeO.ite ?_ ?_ | refine LeO.bind ?_ (fun _ => ?_)) | exact ih0 _ _ _ | exact ih1 _ _ _ _ _ | exact ih2 _ _ _ _ _ | exact LeO.none _ | refine LeO.ite ?_ ?_ | refine LeO.bind ?_ (fun _ => ?_)
    · intro y0 y1 y2 y3 y4
      unfold lex_comment.j1
      repeat' first | (with_reducible first | exact ih0 _ _ _ | exact ih1 _ _ _ _ _ | exact ih2 _ _ _ _ _ | exact LeO.refl _ | exact LeO.none _ | refine LeO.ite ?_ ?_ | refine LeO.bind ?_ (fun _ => ?_)) | exact ih0 _ _ _ | exact ih1 _ _ _ _ _ | exact ih2 _ _ _ _ _ | exact LeO.none _ | refine LeO.ite ?_ ?_ | refine LeO.bind ?_ (fun _ => ?_)
    · intro y0 y1 y2 y3 y4
      unfold lex_comment.j2
      repeat' first | (with_reducible first | exact ih0 _ _ _ | exact ih1 _ _ _ _ _ | exact ih2 _ _ _ _ _ | exact LeO.refl _ | exact LeO.none _ | refine LeO.ite ?_ ?_ | refine LeO.bind ?_ (fun _ => ?_)) | exact ih0 _ _ _ | exact ih1 _ _ _ _ _ | exact ih2 _ _ _ _ _ | exact LeO.none _ | refine LeO.ite ?_ ?_ | refine LeO.bind ?_ (fun _ => ?_)
theorem lex_comment.mono : ∀ a0 k, LeO (lex_comment.f k a0) (lex_comment.f (k + 1) a0) := by
  intro a0 k
  obtain ⟨ih0, ih1, ih2⟩ := lex_comment.mono_l k
  unfold lex_comment.f
  repeat' first | (with_reducible first | exact ih0 _ _ _ | exact ih1 _ _ _ _ _ | exact ih2 _ _ _ _ _ | exact LeO.refl _ | exact LeO.none _ | refine LeO.ite ?_ ?_ | refine LeO.bind ?_ (fun _ => ?_)) | exact ih0 _ _ _ | exact ih1 _ _ _ _ _ | exact ih2 _ _ _ _ _ | exact LeO.none _ | refine LeO.ite ?_ ?_ | refine LeO.bind ?_ (fun _ => ?_)
set_option maxHeartbeats 8000000 in
set_option maxRecDepth 100000 in
theorem lex_comment.calls (k : Nat) (a0 : ByteArray) (r1 : ByteArray) (r2 : Int) (w : World) (h : lex_comment.f k a0 = some (r1, r2)) :
    Calls Tryz.prog 168 #[.string a0] w fun e w' => e = .returned (.tuple #[.string r1, .int .i64 r2]) ∧ Drawn0 w w' := by
 unfold lex_comment.f at h
 have H := h
 clear h
 have H' := Aside0.mk H
 clear H
 go_enter Tryz.func168, Tryz.ntmps168
 go_wp2
 go_step3
 go_wp2
 go_step3
 go_wp2
 go_loopg [0, 4, 5] k (fun kq v0 v4 v5 w' => ∃ (x0_1 : ByteArray) (x4_1 : Int) (x5_1 : Int), v0 = .string x0_1 ∧ v4 = .int .i64 x4_1 ∧ v5 = .int .i64 x5_1 ∧ Aside0 (lex_comment.l0 kq x0_1 x4_1 x5_1 = some (r1, r2)) ∧ Aside0 (kq ≤ k) ∧ Drawn0 w w')
 case atStart => exact ⟨(a0), (0), (0), (by first | rfl | (simp; done) | (exact absurd c25b0 (by decide)) | (simp [*]; done)), (by first | rfl | (simp; done) | (exact absurd c25b0 (by decide)) | (simp [*]; done)), (by first | rfl | (simp; done) | (exact absurd c25b0 (by decide)) | (simp [*]; done)), H', ⟨Nat.le_refl _⟩, drw⟩
 case round =>
  clear H'
  try clear c1
  obtain ⟨x0_1, x4_1, x5_1, rfl, rfl, rfl, HA, HK1, ⟨m1, rfl⟩⟩ := hrel
  cases gk with
  | zero => exact absurd HA.out (by simp [lex_comment.l0])
  | succ k1 =>
   have H := HA.out
   clear HA
   simp only [lex_comment.l0] at H
   by_cases c2 : x5_1 < (x0_1.size : Int)
   ·rw [if_pos c2] at H
    have c2b0 := decide_eq_true c2
    clear c2
    obtain ⟨c3, H⟩ := iteS H
    have c3b0 := decide_eq_true c3
    clear c3
    have c5b0 := eq_true (od_ : 0 ≤ x5_1)
    obtain ⟨c6, H⟩ := iteS H
    have c6b0 := eq_true c6
    have c6b1 := decide_eq_true c6
    clear c6
    replace H := Option.bind_eq_some_iff.mp H
    obtain ⟨t197, A70, H⟩ := H
    try dsimp only at H
    have A7 := Aside0.mk A70
    clear A70
    by_cases c8 : t197 = true
    ·subst c8
     rw [if_pos rfl] at H
     have H' := Aside0.mk H
     clear H
     have p4 : 0 ≤ (x5_1 : Int) := od_
     have q4 : x5_1 < (x0_1.size : Int) := od_
     have hx4 := bt_at x0_1 x5_1
     replace p4 := eq_true p4
     replace q4 := eq_true q4
     go_wp2_with (first | ((with_reducible refine gc 167 rfl ?_); refine cl_ (some 21) Tryz.func167 (lex_fold.calls (x0_1.extract (x5_1 : Int).toNat x0_1.size) true _ A7.out) ?_; rintro w' ⟨nd, rfl⟩))
     go_roundg k1
     case measure => have := HK1.out; omega
     case rel => exact ⟨(x0_1), (x4_1), (wrap64 ((wrap64 (x5_1 + 1)) + 1)), (by first | rfl | (simp; done) | (exact absurd c25b0 (by decide)) | (simp [*]; done)), (by first | rfl | (simp; done) | (exact absurd c25b0 (by decide)) | (simp [*]; done)), (by first | rfl | (simp; done) | (exact absurd c25b0 (by decide)) | (simp [*]; done)), H', ⟨by have := HK1.out; omega⟩, drw⟩
    ·replace c8 := Bool.eq_false_iff.mpr c8
     subst c8
     rw [if_neg nft] at H
     by_cases c9 : (bt x0_1 x5_1) = 92
     ·rw [if_pos c9] at H
      have c9b0 := beq_iff_eq.mpr c9
      have c9b1 := bne_eq_false_iff_eq.mpr c9
      clear c9
      obtain ⟨ji10, hji10⟩ : ∃ j_ : Int, (wrap64 (x5_1 + 1)) = j_ := ⟨_, rfl⟩
      replace H : (if 0 ≤ (ji10) then (if (ji10) ≤ (x0_1.size : Int) then ((lex_escaped.f (x0_1.extract ((ji10) : Int).toNat x0_1.size)).bind fun t198 => (if t198 = 0 then (lex_comment.l0 k1 x0_1 x4_1 (wrap64 ((ji10) + 1))) else (some ((⟨#[]⟩ : ByteArray), t198)))) else (none)) else (none)) = some (r1, r2) := by first | (rw [hji10] at H; exact H) | (simp only [hji10] at H ⊢; exact H)
      (try rw [hji10] at A7)
      have hji10w : (IntKind.i64.wrap (x5_1 + 1)) = ji10 := (i64_w _).trans hji10
      obtain ⟨c11, H⟩ := iteS H
      have c11b0 := eq_true c11
      have c11b1 := decide_eq_true c11
      clear c11
      obtain ⟨c12, H⟩ := iteS H
      have c12b0 := eq_true c12
      have c12b1 := decide_eq_true c12
      clear c12
      replace H := Option.bind_eq_some_iff.mp H
      obtain ⟨t198, A130, H⟩ := H
      try dsimp only at H
      have A13 := Aside0.mk A130
      clear A130
      by_cases c14 : t198 = 0
      ·rw [if_pos c14] at H
       have c14b0 := beq_iff_eq.mpr c14
       have c14b1 := bne_eq_false_iff_eq.mpr c14
       clear c14
       have H' := Aside0.mk H
       clear H
       have p4 : 0 ≤ (x5_1 : Int) := od_
       have q4 : x5_1 < (x0_1.size : Int) := od_
       have hx4 := bt_at x0_1 x5_1
       replace p4 := eq_true p4
       replace q4 := eq_true q4
       go_wp2_with (first | ((with_reducible refine gc 167 rfl ?_); refine cl_ (some 21) Tryz.func167 (lex_fold.calls (x0_1.extract (x5_1 : Int).toNat x0_1.size) false _ A7.out) ?_; rintro w' ⟨nd, rfl⟩) | ((with_reducible refine gc 177 rfl ?_); refine goesL_ (some 32) rfl rfl Tryz.func177 (by kernel_rfl) rfl #[.string (x0_1.extract ((ji10) : Int).toNat x0_1.size)] rfl (by (try simp only [List.map_toArray, List.map_cons, List.map_nil]); first | done | (simp only [hji10]; rfl) | rfl | (simp only [List.length_drop, List.length_take]; rfl)) ?_; (with_reducible refine (lex_escaped.calls (x0_1.extract ((ji10) : Int).toNat x0_1.size) t198 _ A13.out).mono ?_); rintro e w' ⟨rfl, ⟨nd, rfl⟩⟩; refine ⟨_, rfl, ?_⟩))
       go_roundg k1
       case measure => have := HK1.out; omega
       case rel => exact ⟨(x0_1), (x4_1), (wrap64 ((ji10) + 1)), (by first | rfl | (simp; done) | (exact absurd c25b0 (by decide)) | (simp [*]; done)), (by first | rfl | (simp; done) | (exact absurd c25b0 (by decide)) | (simp [*]; done)), (by first | rfl | (simp; done) | (exact absurd c25b0 (by decide)) | (simp only [← hji10] <;> (first | rfl | simp)) | (simp [*]; done)), H', ⟨by have := HK1.out; omega⟩, drw⟩
      ·rw [if_neg c14] at H
       have c14b0 := beq_eq_false_iff_ne.mpr c14
       have c14b1 := bne_iff_ne.mpr c14
       simp only [Option.some.injEq, Prod.mk.injEq] at H
       obtain ⟨rfl, rfl⟩ := H
       have p4 : 0 ≤ (x5_1 : Int) := od_
       have q4 : x5_1 < (x0_1.size : Int) := od_
       have hx4 := bt_at x0_1 x5_1
       replace p4 := eq_true p4
       replace q4 := eq_true q4
       go_wp2_with (first | ((with_reducible refine gc 167 rfl ?_); refine cl_ (some 21) Tryz.func167 (lex_fold.calls (x0_1.extract (x5_1 : Int).toNat x0_1.size) false _ A7.out) ?_; rintro w' ⟨nd, rfl⟩) | ((with_reducible refine gc 177 rfl ?_); refine goesL_ (some 32) rfl rfl Tryz.func177 (by kernel_rfl) rfl #[.string (x0_1.extract ((ji10) : Int).toNat x0_1.size)] rfl (by (try simp only [List.map_toArray, List.map_cons, List.map_nil]); first | done | (simp only [hji10]; rfl) | rfl | (simp only [List.length_drop, List.length_take]; rfl)) ?_; (with_reducible refine (lex_escaped.calls (x0_1.extract ((ji10) : Int).toNat x0_1.size) t198 _ A13.out).mono ?_); rintro e w' ⟨rfl, ⟨nd, rfl⟩⟩; refine ⟨_, rfl, ?_⟩))
       (try rw [Exit.noGoto_ret])
       go_ret2
       exact ⟨by first | rfl | (simp; done) | (exact absurd c25b0 (by decide)) | (simp only [← hji10] <;> (first | rfl | simp)) | (simp [*]; done), drw⟩
     ·rw [if_neg c9] at H
      have c9b0 := beq_eq_false_iff_ne.mpr c9
      have c9b1 := bne_iff_ne.mpr c9
      have HC15 := Aside0.mk H
      clear H
      have p4 : 0 ≤ (x5_1 : Int) := od_
      have q4 : x5_1 < (x0_1.size : Int) := od_
      have hx4 := bt_at x0_1 x5_1
      replace p4 := eq_true p4
      replace q4 := eq_true q4
      go_upto_region 13 with (first | ((with_reducible refine gc 167 rfl ?_); refine cl_ (some 21) Tryz.func167 (lex_fold.calls (x0_1.extract (x5_1 : Int).toNat x0_1.size) false _ A7.out) ?_; rintro w' ⟨nd, rfl⟩))
      (try simp only [Act.put, List.setIfInBounds_toArray, List.set_cons_zero, List.set_cons_succ])
      go_cut [36] (fun v36 wc => ∃ (kq : Nat) (x36_14 : Bool), v36 = .bool x36_14 ∧ Aside0 (lex_comment.j1 kq x0_1 x4_1 x5_1 (bt x0_1 x5_1) x36_14 = some (r1, r2)) ∧ Aside0 (kq ≤ k1) ∧ Drawn0 w wc)
      case first =>
       have H := HC15.out
       clear HC15
       by_cases c16 : (bt x0_1 x5_1) = 40
       ·rw [if_pos c16] at H
        have c16b0 := beq_iff_eq.mpr c16
        have c16b1 := bne_eq_false_iff_eq.mpr c16
        clear c16
        (first | rw [c16b0] | (simp only [i64_w, i32_w]; rw [c16b0]) | skip)
        have H' := Aside0.mk H
        clear H
        go_wp2
        go_meet
        case rel => exact ⟨_, ((x4_1 == 16)), (by first | rfl | (simp; done) | (exact absurd c25b0 (by decide)) | (simp [*]; done)), H', ⟨by have := HK1.out; first | omega | exact Nat.le_refl _⟩, drw⟩
       ·rw [if_neg c16] at H
        have c16b0 := beq_eq_false_iff_ne.mpr c16
        have c16b1 := bne_iff_ne.mpr c16
        (first | rw [c16b0] | (simp only [i64_w, i32_w]; rw [c16b0]) | skip)
        have H' := Aside0.mk H
        clear H
        go_wp2
        go_meet
        case rel => exact ⟨_, (false), (by first | rfl | (simp; done) | (exact absurd c25b0 (by decide)) | (simp [*]; done)), H', ⟨by have := HK1.out; first | omega | exact Nat.le_refl _⟩, drw⟩
      case rest =>
       clear HC15
       try clear c1
       try clear c2
       try clear c2b0
       try clear p2
       try clear c3
       try clear c3b0
       try clear p4
       try clear q4
       try clear hx4
       try clear c5
       try clear c5b0
       try clear c6
       try clear c6b0
       try clear c6b1
       try clear p6
       try clear c8
       try clear c9
       try clear c9b0
       try clear c9b1
       try clear c11
       try clear c11b0
       try clear c11b1
       try clear c12
       try clear c12b0
       try clear c12b1
       try clear c14
       try clear c14b0
       try clear c14b1
       try clear c16
       try clear c16b0
       try clear c16b1
       try clear p4
       try clear q4
       obtain ⟨kq, x36_14, rfl, HA, HJ14, ⟨mc14, rfl⟩⟩ := hcut
       cases kq with
       | zero => exact absurd HA.out (by simp [lex_comment.j1])
       | succ kj14 =>
        have H := HA.out
        clear HA
        simp only [lex_comment.j1] at H
        by_cases c17 : x36_14 = true
        ·subst c17
         rw [if_pos rfl] at H
         simp only [Option.some.injEq, Prod.mk.injEq] at H
         obtain ⟨rfl, rfl⟩ := H
         go_wp2
         (try rw [Exit.noGoto_ret])
         go_ret2
         exact ⟨by first | rfl | (simp; done) | (exact absurd c25b0 (by decide)) | (simp [*]; done), drw⟩
        ·replace c17 := Bool.eq_false_iff.mpr c17
         subst c17
         rw [if_neg nft] at H
         by_cases c18 : (bt x0_1 x5_1) = 40
         ·rw [if_pos c18] at H
          have c18b0 := beq_iff_eq.mpr c18
          have c18b1 := bne_eq_false_iff_eq.mpr c18
          clear c18
          have H' := Aside0.mk H
          clear H
          go_wp2
          go_roundg kj14
          case measure => have := HK1.out; have := HJ14.out; omega
          case rel => exact ⟨(x0_1), (wrap64 (x4_1 + 1)), (wrap64 (x5_1 + 1)), (by first | rfl | (simp; done) | (exact absurd c25b0 (by decide)) | (simp [*]; done)), (by first | rfl | (simp; done) | (exact absurd c25b0 (by decide)) | (simp [*]; done)), (by first | rfl | (simp; done) | (exact absurd c25b0 (by decide)) | (simp [*]; done)), H', ⟨by have := HK1.out; have := HJ14.out; omega⟩, drw⟩
         ·rw [if_neg c18] at H
          have c18b0 := beq_eq_false_iff_ne.mpr c18
          have c18b1 := bne_iff_ne.mpr c18
          have HC19 := Aside0.mk H
          clear H
          go_upto_region 17 with (fail)
          go_cut [48] (fun v48 wc => ∃ (kq : Nat) (x48_18 : Bool), v48 = .bool x48_18 ∧ Aside0 (lex_comment.j2 kq x0_1 x4_1 x5_1 (bt x0_1 x5_1) x48_18 = some (r1, r2)) ∧ Aside0 (kq ≤ kj14) ∧ Drawn0 w wc)
          case first =>
           have H := HC19.out
           clear HC19
           by_cases c20 : (bt x0_1 x5_1) = 41
           ·rw [if_pos c20] at H
            have c20b0 := beq_iff_eq.mpr c20
            have c20b1 := bne_eq_false_iff_eq.mpr c20
            clear c20
            (first | rw [c20b0] | (simp only [i64_w, i32_w]; rw [c20b0]) | skip)
            have H' := Aside0.mk H
            clear H
            go_wp2
            go_meet
            case rel => exact ⟨_, ((x4_1 == 1)), (by first | rfl | (simp; done) | (exact absurd c25b0 (by decide)) | (simp [*]; done)), H', ⟨by have := HK1.out; have := HJ14.out; first | omega | exact Nat.le_refl _⟩, drw⟩
           ·rw [if_neg c20] at H
            have c20b0 := beq_eq_false_iff_ne.mpr c20
            have c20b1 := bne_iff_ne.mpr c20
            (first | rw [c20b0] | (simp only [i64_w, i32_w]; rw [c20b0]) | skip)
            have H' := Aside0.mk H
            clear H
            go_wp2
            go_meet
            case rel => exact ⟨_, (false), (by first | rfl | (simp; done) | (exact absurd c25b0 (by decide)) | (simp [*]; done)), H', ⟨by have := HK1.out; have := HJ14.out; first | omega | exact Nat.le_refl _⟩, drw⟩
          case rest =>
           clear HC19
           try clear c1
           try clear c2
           try clear c2b0
           try clear p2
           try clear c3
           try clear c3b0
           try clear p4
           try clear q4
           try clear hx4
           try clear c5
           try clear c5b0
           try clear c6
           try clear c6b0
           try clear c6b1
           try clear p6
           try clear c8
           try clear c9
           try clear c9b0
           try clear c9b1
           try clear c11
           try clear c11b0
           try clear c11b1
           try clear c12
           try clear c12b0
           try clear c12b1
           try clear c14
           try clear c14b0
           try clear c14b1
           try clear c16
           try clear c16b0
           try clear c16b1
           try clear c17
           try clear c18
           try clear c18b0
           try clear c18b1
           try clear c20
           try clear c20b0
           try clear c20b1
           try clear p2
           try clear p4
           try clear p6
           try clear q4
           obtain ⟨kq, x48_18, rfl, HA, HJ18, ⟨mc18, rfl⟩⟩ := hcut
           cases kq with
           | zero => exact absurd HA.out (by simp [lex_comment.j2])
           | succ kj18 =>
            have H := HA.out
            clear HA
            simp only [lex_comment.j2] at H
            by_cases c21 : x48_18 = true
            ·subst c21
             rw [if_pos rfl] at H
             obtain ⟨ji22, hji22⟩ : ∃ j_ : Int, (wrap64 (x5_1 + 1)) = j_ := ⟨_, rfl⟩
             replace H : (if 0 ≤ (ji22) then (if (ji22) ≤ (x0_1.size : Int) then (if 0 > 0 then (some ((⟨#[]⟩ : ByteArray), 9)) else (some (x0_1.extract ((ji22) : Int).toNat x0_1.size, 0))) else (none)) else (none)) = some (r1, r2) := by first | (rw [hji22] at H; exact H) | (simp only [hji22] at H ⊢; exact H)
             have hji22w : (IntKind.i64.wrap (x5_1 + 1)) = ji22 := (i64_w _).trans hji22
             obtain ⟨c23, H⟩ := iteS H
             have c23b0 := eq_true c23
             have c23b1 := decide_eq_true c23
             clear c23
             obtain ⟨c24, H⟩ := iteS H
             have c24b0 := eq_true c24
             have c24b1 := decide_eq_true c24
             clear c24
             by_cases c25 : 0 > 0
             ·rw [if_pos c25] at H
              have c25b0 : decide (0 < 0) = true := decide_eq_true c25
              clear c25
              simp only [Option.some.injEq, Prod.mk.injEq] at H
              obtain ⟨rfl, rfl⟩ := H
              go_wp2
              (try rw [Exit.noGoto_ret])
              go_ret2
              exact ⟨by first | rfl | (simp; done) | (exact absurd c25b0 (by decide)) | (simp only [← hji22] <;> (first | rfl | simp)) | (simp [*]; done), drw⟩
             ·rw [if_neg c25] at H
              have c25b0 : decide (0 < 0) = false := decide_eq_false c25
              clear c25
              simp only [Option.some.injEq, Prod.mk.injEq] at H
              obtain ⟨rfl, rfl⟩ := H
              go_wp2
              (try rw [Exit.noGoto_ret])
              go_ret2
              exact ⟨by first | rfl | (simp; done) | (exact absurd c25b0 (by decide)) | (simp only [← hji22] <;> (first | rfl | simp)) | (simp [*]; done), drw⟩
            ·replace c21 := Bool.eq_false_iff.mpr c21
             subst c21
             rw [if_neg nft] at H
             by_cases c26 : (bt x0_1 x5_1) = 41
             ·rw [if_pos c26] at H
              have c26b0 := beq_iff_eq.mpr c26
              have c26b1 := bne_eq_false_iff_eq.mpr c26
              clear c26
              have H' := Aside0.mk H
              clear H
              go_wp2
              go_roundg kj18
              case measure => have := HK1.out; have := HJ14.out; have := HJ18.out; omega
              case rel => exact ⟨(x0_1), (wrap64 (x4_1 - 1)), (wrap64 (x5_1 + 1)), (by first | rfl | (simp; done) | (exact absurd c25b0 (by decide)) | (simp [*]; done)), (by first | rfl | (simp; done) | (exact absurd c25b0 (by decide)) | (simp [*]; done)), (by first | rfl | (simp; done) | (exact absurd c25b0 (by decide)) | (simp [*]; done)), H', ⟨by have := HK1.out; have := HJ14.out; have := HJ18.out; omega⟩, drw⟩
             ·rw [if_neg c26] at H
              have c26b0 := beq_eq_false_iff_ne.mpr c26
              have c26b1 := bne_iff_ne.mpr c26
              replace H := Option.bind_eq_some_iff.mp H
              obtain ⟨t199, A270, H⟩ := H
              try dsimp only at H
              have A27 := Aside0.mk A270
              clear A270
              by_cases c28 : t199 = true
              ·subst c28
               rw [if_pos rfl] at H
               have H' := Aside0.mk H
               clear H
               go_wp2_with (first | ((with_reducible refine gc 83 rfl ?_); refine cl_ (some 66) Tryz.func83 (lex_text.calls (bt x0_1 x5_1) true _ A27.out) ?_; rintro w' ⟨nd, rfl⟩))
               go_roundg kj18
               case measure => have := HK1.out; have := HJ14.out; have := HJ18.out; omega
               case rel => exact ⟨(x0_1), (x4_1), (wrap64 (x5_1 + 1)), (by first | rfl | (simp; done) | (exact absurd c25b0 (by decide)) | (simp [*]; done)), (by first | rfl | (simp; done) | (exact absurd c25b0 (by decide)) | (simp [*]; done)), (by first | rfl | (simp; done) | (exact absurd c25b0 (by decide)) | (simp [*]; done)), H', ⟨by have := HK1.out; have := HJ14.out; have := HJ18.out; omega⟩, drw⟩
              ·replace c28 := Bool.eq_false_iff.mpr c28
               subst c28
               rw [if_neg nft] at H
               simp only [Option.some.injEq, Prod.mk.injEq] at H
               obtain ⟨rfl, rfl⟩ := H
               go_wp2_with (first | ((with_reducible refine gc 83 rfl ?_); refine cl_ (some 66) Tryz.func83 (lex_text.calls (bt x0_1 x5_1) false _ A27.out) ?_; rintro w' ⟨nd, rfl⟩))
               (try rw [Exit.noGoto_ret])
               go_ret2
               exact ⟨by first | rfl | (simp; done) | (exact absurd c25b0 (by decide)) | (simp [*]; done), drw⟩
   ·rw [if_neg c2] at H
    have c2b0 := decide_eq_false c2
    clear c2
    by_cases c29 : x4_1 > 0
    ·rw [if_pos c29] at H
     have c29b0 : decide (0 < x4_1) = true := decide_eq_true c29
     clear c29
     simp only [Option.some.injEq, Prod.mk.injEq] at H
     obtain ⟨rfl, rfl⟩ := H
     go_wp2
     (try rw [Exit.noGoto_ret])
     go_ret2
     exact ⟨by first | rfl | (simp; done) | (exact absurd c25b0 (by decide)) | (simp [*]; done), drw⟩
    ·rw [if_neg c29] at H
     have c29b0 : decide (0 < x4_1) = false := decide_eq_false c29
     clear c29
     simp only [Option.some.injEq, Prod.mk.injEq] at H
     obtain ⟨rfl, rfl⟩ := H
     go_wp2
     (try rw [Exit.noGoto_ret])
     go_ret2
     exact ⟨by first | rfl | (simp; done) | (exact absurd c25b0 (by decide)) | (simp [*]; done), drw⟩

end Go.Proofs.YtcpmoolpbeeedaaGreatDoor.Q
