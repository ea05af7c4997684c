-- Written by a program of this session (wip/myprint) out of the translation, for YtcpmoolpbeeedaaGreatDoor.
import Derived.Test.YtcpmoolpbeeedaaGreatDoorQ0
import Derived.Test.YtcpmoolpbeeedaaGreatDoorQ22
import Derived.Test.YtcpmoolpbeeedaaGreatDoorQ23
import Derived.Test.YtcpmoolpbeeedaaGreatDoorQ22b
import Derived.Test.YtcpmoolpbeeedaaGreatDoorQ4
import Derived.Test.YtcpmoolpbeeedaaGreatDoorQ9
namespace Go.Proofs.YtcpmoolpbeeedaaGreatDoor.Q
open Go.RowKit Go.Proofs.YtcpmoolpbeeedaaGreatDoorW.PrintWords Go.Proofs.YtcpmoolpbeeedaaGreatDoorW.PrintLast Go.Proofs.YtcpmoolpbeeedaaGreatDoorW.PrintMore Go.Proofs.YtcpmoolpbeeedaaGreatDoorW.PrintSq
attribute [local go_sem] max2_int min2_int max_two min_two max_three min_three max_four min_four   -- for this text's walks alone
set_option linter.unusedVariables false
set_option linter.unusedSimpArgs false

/-! ### bulletinlaw23_MboxQuoteBack: function 8 -/
def bulletinlaw23_MboxQuoteBack.l0 : Nat → ByteArray → ByteArray → Int → Option (Bool)
  | 0, _, _, _ => none
  | k + 1, x0, x3, x4 => if (wrap64 (x4 + 5)) ≤ (x3.size : Int) then (if 0 ≤ x4 then (if x4 ≤ (wrap64 (x4 + 5)) then (if (x3.extract (x4 : Int).toNat ((wrap64 (x4 + 5)) : Int).toNat).toList = ([70, 114, 111, 109, 32] : List UInt8) then (if x4 = 0 then (none) else (if x4 ≥ 2 then (if 0 ≤ (wrap64 (x4 - 2)) then (if (wrap64 (x4 - 2)) ≤ x4 then (if x4 ≤ (x3.size : Int) then (if (x3.extract ((wrap64 (x4 - 2)) : Int).toNat (x4 : Int).toNat).toList = ([13, 10] : List UInt8) then (none) else (bulletinlaw23_MboxQuoteBack.l0 k x0 x3 (wrap64 (x4 + 1)))) else (none)) else (none)) else (none)) else (bulletinlaw23_MboxQuoteBack.l0 k x0 x3 (wrap64 (x4 + 1))))) else (bulletinlaw23_MboxQuoteBack.l0 k x0 x3 (wrap64 (x4 + 1)))) else (none)) else (none)) else ((mbox_Unquote.f x3).bind fun t644 => (some (t644.toList == x0.toList)))
def bulletinlaw23_MboxQuoteBack.f (k : Nat) (a0 : ByteArray) : Option (Bool) := (bulletinlaw23_works.f k).bind fun t642 => (if t642 = true then (if (a0.size : Int) > 1000 then (some true) else ((mbox_Quote.f a0).bind fun t643 => (bulletinlaw23_MboxQuoteBack.l0 k a0 t643 0))) else (none))
theorem bulletinlaw23_MboxQuoteBack.mono_l : ∀ k, (∀ y0 y1 y2, LeO (bulletinlaw23_MboxQuoteBack.l0 k y0 y1 y2) (bulletinlaw23_MboxQuoteBack.l0 (k + 1) y0 y1 y2))
  | 0 => fun _ _ _ r h => by simp [bulletinlaw23_MboxQuoteBack.l0] at h
  | k + 1 => by
    have ih0 := bulletinlaw23_MboxQuoteBack.mono_l k
    · intro y0 y1 y2
      unfold bulletinlaw23_MboxQuoteBack.l0
      repeat' first | (with_reducible first | exact ih0 _ _ _ | exact bulletinlaw23_works.mono _ | exact LeO.refl _ | exact LeO.none _ | refine LeO.ite ?_ ?_ | refine LeO.bind ?_ (fun _ => ?_)) | exact ih0 _ _ _ | exact bulletinlaw23_works.mono _ | exact LeO.none _ | refine LeO.ite ?_ ?_ | refine LeO.bind ?_ (fun _ => ?_)
theorem bulletinlaw23_MboxQuoteBack.mono : ∀ a0 k, LeO (bulletinlaw23_MboxQuoteBack.f k a0) (bulletinlaw23_MboxQuoteBack.f (k + 1) a0) := by
  intro a0 k
  have ih0 := bulletinlaw23_MboxQuoteBack.mono_l k
  unfold bulletinlaw23_MboxQuoteBack.f
  repeat' first | (with_reducible first | exact ih0 _ _ _ | exact bulletinlaw23_works.mono _ | exact LeO.refl _ | exact LeO.none _ | refine LeO.ite ?_ ?_ | refine LeO.bind ?_ (fun _ => ?_)) | exact ih0 _ _ _ | exact bulletinlaw23_works.mono _ | exact LeO.none _ | refine LeO.ite ?_ ?_ | refine LeO.bind ?_ (fun _ => ?_)
set_option maxHeartbeats 8000000 in
set_option maxRecDepth 100000 in
theorem bulletinlaw23_MboxQuoteBack.calls (k : Nat) (a0 : ByteArray) (r : Bool) (w : World) (hG : Amb w) (h : bulletinlaw23_MboxQuoteBack.f k a0 = some r) :
    Calls Tryz.prog 8 #[.string a0] w fun e w' => e = .returned (.bool r) ∧ Below w.heap.size w w' := by
 have HB := Aside0.mk (Below.refl w.heap.size w)
 unfold bulletinlaw23_MboxQuoteBack.f at h
 have H := h
 clear h
 have HG := Aside0.mk hG
 clear hG
 replace H := Option.bind_eq_some_iff.mp H
 obtain ⟨t642, A20, H⟩ := H
 try dsimp only at H
 have A2 := Aside0.mk A20
 clear A20
 obtain ⟨rfl, H⟩ := iteS H
 by_cases c4 : (a0.size : Int) > 1000
 ·rw [if_pos c4] at H
  have c4b0 : decide (1000 < (a0.size : Int)) = true := decide_eq_true c4
  have c4b1 : decide (1000 < a0.size) = true := decide_eq_true (by omega)
  clear c4
  obtain rfl := Option.some.inj H
  go_enter Tryz.func8, Tryz.ntmps8
  go_wp2_with (first | ((with_reducible refine gc 9 rfl ?_); refine cl_ (some 5) Tryz.func9 (bulletinlaw23_works.calls k  true _ (Amb.at HG.out blw) A2.out) ?_; rintro w5 hb; replace HB := Aside0.mk (below_step blw hb); (try clear hb)))
  go_ret
  exact ⟨by first | rfl | (simp [errW_none, errW_some] <;> rfl) | (simp [*, errW_none, errW_some] <;> rfl), blw⟩
 ·rw [if_neg c4] at H
  have c4b0 : decide (1000 < (a0.size : Int)) = false := decide_eq_false c4
  have c4b1 : decide (1000 < a0.size) = false := decide_eq_false (by omega)
  clear c4
  replace H := Option.bind_eq_some_iff.mp H
  obtain ⟨t643, A60, H⟩ := H
  try dsimp only at H
  have A6 := Aside0.mk A60
  clear A60
  have H' := Aside0.mk H
  clear H
  go_enter Tryz.func8, Tryz.ntmps8
  go_wp2_with (first | ((with_reducible refine gc 9 rfl ?_); refine cl_ (some 5) Tryz.func9 (bulletinlaw23_works.calls k  true _ (Amb.at HG.out blw) A2.out) ?_; rintro w7 hb; replace HB := Aside0.mk (below_step blw hb); (try clear hb)) | ((with_reducible refine gc 10 rfl ?_); refine cl_ (some 11) Tryz.func10 (mbox_Quote.calls a0 t643 _ (Amb.at HG.out blw) A6.out) ?_; rintro w8 hb; replace HB := Aside0.mk (below_step blw hb); (try clear hb)))
  go_loopg [4] k (fun kq v4 w' => ∃ (x4_1 : Int), v4 = .int .i64 x4_1 ∧ Aside0 (bulletinlaw23_MboxQuoteBack.l0 kq a0 t643 x4_1 = some r) ∧ Aside0 (kq ≤ k) ∧ Aside0 (Below w.heap.size w w'))
  case atStart => exact ⟨(0), eqs, H', ⟨Nat.le_refl _⟩, ⟨blw⟩⟩
  case round =>
   clear H'
   try clear c1
   try clear p2
   try clear c3
   try clear c4
   try clear c4b0
   try clear c4b1
   try clear c8
   obtain ⟨x4_1, rfl, HA, HK1, HB⟩ := hrel
   cases gk with
   | zero => exact absurd HA.out (by simp [bulletinlaw23_MboxQuoteBack.l0])
   | succ k1 =>
    have H := HA.out
    clear HA
    simp only [bulletinlaw23_MboxQuoteBack.l0] at H
    by_cases c9 : (wrap64 (x4_1 + 5)) ≤ (t643.size : Int)
    ·rw [if_pos c9] at H
     have c9b0 := decide_eq_true c9
     clear c9
     obtain ⟨c10, H⟩ := iteS H
     have c10b0 := eq_true c10
     have c10b1 := decide_eq_true c10
     clear c10
     obtain ⟨c11, H⟩ := iteS H
     have c11b0 := eq_true c11
     have c11b1 := decide_eq_true c11
     have c12b0 := eq_true (od_ : (wrap64 (x4_1 + 5)) ≤ (t643.size : Int))
     by_cases c13 : (t643.extract (x4_1 : Int).toNat ((wrap64 (x4_1 + 5)) : Int).toNat).toList = ([70, 114, 111, 109, 32] : List UInt8)
     ·rw [if_pos c13] at H
      have c13b0 := beq_iff_eq.mpr c13
      have c13b1 := bne_eq_false_iff_eq.mpr c13
      clear c13
      obtain ⟨c14, H⟩ := iteN H
      have c14b0 := beq_eq_false_iff_ne.mpr c14
      have c14b1 := bne_iff_ne.mpr c14
      by_cases c15 : x4_1 ≥ 2
      ·rw [if_pos c15] at H
       have c15b0 : decide (2 ≤ x4_1) = true := decide_eq_true c15
       clear c15
       obtain ⟨ji16, hji16⟩ : ∃ j_ : Int, (wrap64 (x4_1 - 2)) = j_ := ⟨_, rfl⟩
       replace H : (if 0 ≤ (ji16) then (if (ji16) ≤ x4_1 then (if x4_1 ≤ (t643.size : Int) then (if (t643.extract ((ji16) : Int).toNat (x4_1 : Int).toNat).toList = ([13, 10] : List UInt8) then (none) else (bulletinlaw23_MboxQuoteBack.l0 k1 a0 t643 (wrap64 (x4_1 + 1)))) else (none)) else (none)) else (none)) = some r := by first | (rw [hji16] at H; exact H) | (simp only [hji16] at H ⊢; exact H)
       have hji16w : (IntKind.i64.wrap (x4_1 - 2)) = ji16 := (i64_w _).trans hji16
       obtain ⟨c17, H⟩ := iteS H
       have c17b0 := eq_true c17
       have c17b1 := decide_eq_true c17
       clear c17
       obtain ⟨c18, H⟩ := iteS H
       have c18b0 := eq_true c18
       have c18b1 := decide_eq_true c18
       clear c18
       obtain ⟨c19, H⟩ := iteS H
       have c19b0 := eq_true c19
       have c19b1 := decide_eq_true c19
       clear c19
       obtain ⟨c20, H⟩ := iteN H
       have c20b0 := beq_eq_false_iff_ne.mpr c20
       have c20b1 := bne_iff_ne.mpr c20
       have H' := Aside0.mk H
       clear H
       go_wp2
       go_roundg k1
       case measure => have := HK1.out; omega
       case rel => exact ⟨(wrap64 (x4_1 + 1)), eqs, H', ⟨by have := HK1.out; omega⟩, ⟨blw⟩⟩
      ·rw [if_neg c15] at H
       have c15b0 : decide (2 ≤ x4_1) = false := decide_eq_false c15
       clear c15
       have H' := Aside0.mk H
       clear H
       go_wp2
       go_roundg k1
       case measure => have := HK1.out; omega
       case rel => exact ⟨(wrap64 (x4_1 + 1)), eqs, H', ⟨by have := HK1.out; omega⟩, ⟨blw⟩⟩
     ·rw [if_neg c13] at H
      have c13b0 := beq_eq_false_iff_ne.mpr c13
      have c13b1 := bne_iff_ne.mpr c13
      have H' := Aside0.mk H
      clear H
      go_wp2
      go_roundg k1
      case measure => have := HK1.out; omega
      case rel => exact ⟨(wrap64 (x4_1 + 1)), eqs, H', ⟨by have := HK1.out; omega⟩, ⟨blw⟩⟩
    ·rw [if_neg c9] at H
     have c9b0 := decide_eq_false c9
     clear c9
     replace H := Option.bind_eq_some_iff.mp H
     obtain ⟨t644, A210, H⟩ := H
     try dsimp only at H
     have A21 := Aside0.mk A210
     clear A210
     obtain rfl := Option.some.inj H
     go_wp2_with (first | ((with_reducible refine gc 12 rfl ?_); refine cl_ (some 42) Tryz.func12 (mbox_Unquote.calls t643 t644 _ (Amb.at HG.out blw) A21.out) ?_; rintro w22 hb; replace HB := Aside0.mk (below_step blw hb); (try clear hb)))
     go_ret
     exact ⟨by first | rfl | (simp [errW_none, errW_some] <;> rfl) | (simp [*, errW_none, errW_some] <;> rfl), blw⟩

/-- THE ONE PURE STATEMENT of bulletinlaw23_MboxQuoteBack: yours. -/
def bulletinlaw23_MboxQuoteBack.Pure : Prop := ∀ (a0 : ByteArray), a0.size ≤ 140737488351232 → ∃ k, bulletinlaw23_MboxQuoteBack.f k a0 = some true
theorem bulletinlaw23_MboxQuoteBack.walk (P : bulletinlaw23_MboxQuoteBack.Pure) (a0 : ByteArray) (w : World) (hG : Amb w) (w0 : a0.size ≤ 140737488351232) :
    Calls Tryz.prog 8 #[.string a0] w fun e w' => e = .returned (.bool true) ∧ Below w.heap.size w w' := by
  obtain ⟨k, h⟩ := P a0 w0
  refine (bulletinlaw23_MboxQuoteBack.calls k a0 true w hG h).mono ?_
  rintro e w' ⟨rfl, hd⟩
  exact ⟨rfl, hd⟩
end Go.Proofs.YtcpmoolpbeeedaaGreatDoor.Q
