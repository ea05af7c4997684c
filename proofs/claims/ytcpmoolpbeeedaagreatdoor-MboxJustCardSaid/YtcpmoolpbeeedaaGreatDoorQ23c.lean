-- Written by a program of this session (wip/myprint) out of the translation, for YtcpmoolpbeeedaaGreatDoor.
import Derived.Test.YtcpmoolpbeeedaaGreatDoorQ0
import Derived.Test.YtcpmoolpbeeedaaGreatDoorQ22
import Derived.Test.YtcpmoolpbeeedaaGreatDoorQ22b
import Derived.Test.YtcpmoolpbeeedaaGreatDoorQ23a
import Derived.Test.YtcpmoolpbeeedaaGreatDoorQ23b
import Derived.Test.YtcpmoolpbeeedaaGreatDoorQ4
import Derived.Test.YtcpmoolpbeeedaaGreatDoorQ9
namespace Go.Proofs.YtcpmoolpbeeedaaGreatDoor.Q
open Go.RowKit Go.Proofs.YtcpmoolpbeeedaaGreatDoorW.PrintWords Go.Proofs.YtcpmoolpbeeedaaGreatDoorW.PrintLast Go.Proofs.YtcpmoolpbeeedaaGreatDoorW.PrintMore Go.Proofs.YtcpmoolpbeeedaaGreatDoorW.PrintSq
attribute [local go_sem] max2_int min2_int max_two min_two max_three min_three max_four min_four   -- for this text's walks alone
set_option linter.unusedVariables false
set_option linter.unusedSimpArgs false

/-! ### bulletinlaw23_MboxQuotes: function 3 -/
def bulletinlaw23_MboxQuotes.f (k : Nat) (a0 : ByteArray) : Option (Bool) := if (a0.size : Int) > 1000 then ((bulletinlaw23_works.f k).bind fun t417 => (some t417)) else ((mbox_Quote.f a0).bind fun t418 => ((bulletinref23_Quote.f k a0).bind fun t419 => (if t418.toList = t419.toList then ((mbox_Unquote.f a0).bind fun t420 => ((bulletinref23_Unquote.f k a0).bind fun t421 => (if t420.toList = t421.toList then ((bulletinlaw23_works.f k).bind fun t422 => (some t422)) else (none)))) else (none))))
theorem bulletinlaw23_MboxQuotes.mono : ∀ a0 k, LeO (bulletinlaw23_MboxQuotes.f k a0) (bulletinlaw23_MboxQuotes.f (k + 1) a0) := by
  intro a0 k
  unfold bulletinlaw23_MboxQuotes.f
  repeat' first | (with_reducible first | exact bulletinlaw23_works.mono _ | exact bulletinref23_Quote.mono _ _ | exact bulletinref23_Unquote.mono _ _ | exact LeO.refl _ | exact LeO.none _ | refine LeO.ite ?_ ?_ | refine LeO.bind ?_ (fun _ => ?_)) | exact bulletinlaw23_works.mono _ | exact bulletinref23_Quote.mono _ _ | exact bulletinref23_Unquote.mono _ _ | exact LeO.none _ | refine LeO.ite ?_ ?_ | refine LeO.bind ?_ (fun _ => ?_)
set_option maxHeartbeats 8000000 in
set_option maxRecDepth 100000 in
theorem bulletinlaw23_MboxQuotes.calls (k : Nat) (a0 : ByteArray) (r : Bool) (w : World) (hG : Amb w) (h : bulletinlaw23_MboxQuotes.f k a0 = some r) :
    Calls Tryz.prog 3 #[.string a0] w fun e w' => e = .returned (.bool r) ∧ Below w.heap.size w w' := by
 have HB := Aside0.mk (Below.refl w.heap.size w)
 unfold bulletinlaw23_MboxQuotes.f at h
 have H := h
 clear h
 have HG := Aside0.mk hG
 clear hG
 by_cases c2 : (a0.size : Int) > 1000
 ·rw [if_pos c2] at H
  have c2b0 : decide (1000 < (a0.size : Int)) = true := decide_eq_true c2
  have c2b1 : decide (1000 < a0.size) = true := decide_eq_true (by omega)
  clear c2
  replace H := Option.bind_eq_some_iff.mp H
  obtain ⟨t417, A30, H⟩ := H
  try dsimp only at H
  have A3 := Aside0.mk A30
  clear A30
  obtain rfl := Option.some.inj H
  go_enter Tryz.func3, Tryz.ntmps3
  go_wp2_with (first | ((with_reducible refine gc 9 rfl ?_); refine cl_ (some 6) Tryz.func9 (bulletinlaw23_works.calls k  t417 _ (Amb.at HG.out blw) A3.out) ?_; rintro w4 hb; replace HB := Aside0.mk (below_step blw hb); (try clear hb)))
  go_ret
  exact ⟨by first | rfl | (simp [errW_none, errW_some] <;> rfl) | (simp [*, errW_none, errW_some] <;> rfl), blw⟩
 ·rw [if_neg c2] at H
  have c2b0 : decide (1000 < (a0.size : Int)) = false := decide_eq_false c2
  have c2b1 : decide (1000 < a0.size) = false := decide_eq_false (by omega)
  clear c2
  replace H := Option.bind_eq_some_iff.mp H
  obtain ⟨t418, A50, H⟩ := H
  try dsimp only at H
  have A5 := Aside0.mk A50
  clear A50
  replace H := Option.bind_eq_some_iff.mp H
  obtain ⟨t419, A60, H⟩ := H
  try dsimp only at H
  have A6 := Aside0.mk A60
  clear A60
  obtain ⟨c7, H⟩ := iteS H
  have c7b0 := beq_iff_eq.mpr c7
  have c7b1 := bne_eq_false_iff_eq.mpr c7
  clear c7
  replace H := Option.bind_eq_some_iff.mp H
  obtain ⟨t420, A80, H⟩ := H
  try dsimp only at H
  have A8 := Aside0.mk A80
  clear A80
  replace H := Option.bind_eq_some_iff.mp H
  obtain ⟨t421, A90, H⟩ := H
  try dsimp only at H
  have A9 := Aside0.mk A90
  clear A90
  obtain ⟨c10, H⟩ := iteS H
  have c10b0 := beq_iff_eq.mpr c10
  have c10b1 := bne_eq_false_iff_eq.mpr c10
  clear c10
  replace H := Option.bind_eq_some_iff.mp H
  obtain ⟨t422, A110, H⟩ := H
  try dsimp only at H
  have A11 := Aside0.mk A110
  clear A110
  obtain rfl := Option.some.inj H
  go_enter Tryz.func3, Tryz.ntmps3
  go_wp2_with (first | ((with_reducible refine gc 10 rfl ?_); refine cl_ (some 8) Tryz.func10 (mbox_Quote.calls a0 t418 _ (Amb.at HG.out blw) A5.out) ?_; rintro w12 hb; replace HB := Aside0.mk (below_step blw hb); (try clear hb)) | ((with_reducible refine gc 11 rfl ?_); refine cl_ (some 10) Tryz.func11 (bulletinref23_Quote.calls k a0 t419 _ A6.out) ?_; rintro w13 hb; replace HB := Aside0.mk (below_step blw hb); (try clear hb)) | (go_at_call 12; (with_reducible refine (mbox_Unquote.calls a0 t420 _ ?side1 A8.out).mono ?_); (case side1 => exact Amb.at HG.out blw); rintro e w14 ⟨rfl, hb⟩; replace HB := Aside0.mk (below_step blw hb); (try clear hb)) | (go_at_call 13; (with_reducible refine (bulletinref23_Unquote.calls k a0 t421 _ A9.out).mono ?_); rintro e w15 ⟨rfl, hb⟩; replace HB := Aside0.mk (below_step blw hb); (try clear hb)) | (go_at_call 9; (with_reducible refine (bulletinlaw23_works.calls k  t422 _ ?side1 A11.out).mono ?_); (case side1 => exact Amb.at HG.out blw); rintro e w16 ⟨rfl, hb⟩; replace HB := Aside0.mk (below_step blw hb); (try clear hb)))
  go_ret
  exact ⟨by first | rfl | (simp [errW_none, errW_some] <;> rfl) | (simp [*, errW_none, errW_some] <;> rfl), blw⟩

/-- THE ONE PURE STATEMENT of bulletinlaw23_MboxQuotes: yours. -/
def bulletinlaw23_MboxQuotes.Pure : Prop := ∀ (a0 : ByteArray), a0.size ≤ 140737488351232 → ∃ k, bulletinlaw23_MboxQuotes.f k a0 = some true
theorem bulletinlaw23_MboxQuotes.walk (P : bulletinlaw23_MboxQuotes.Pure) (a0 : ByteArray) (w : World) (hG : Amb w) (w0 : a0.size ≤ 140737488351232) :
    Calls Tryz.prog 3 #[.string a0] w fun e w' => e = .returned (.bool true) ∧ Below w.heap.size w w' := by
  obtain ⟨k, h⟩ := P a0 w0
  refine (bulletinlaw23_MboxQuotes.calls k a0 true w hG h).mono ?_
  rintro e w' ⟨rfl, hd⟩
  exact ⟨rfl, hd⟩
end Go.Proofs.YtcpmoolpbeeedaaGreatDoor.Q
