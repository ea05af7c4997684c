-- Written by a program of this session (wip/myprint) out of the translation, for YtcgfaagadejpmaaGreatDoor.
import Derived.Test.YtcgfaagadejpmaaGreatDoorQ0
namespace Go.Proofs.YtcgfaagadejpmaaGreatDoor.Q
open Go.RowKit Go.Proofs.YtcgfaagadejpmaaGreatDoorW.PrintWords Go.Proofs.YtcgfaagadejpmaaGreatDoorW.PrintLast Go.Proofs.YtcgfaagadejpmaaGreatDoorW.PrintMore Go.Proofs.YtcgfaagadejpmaaGreatDoorW.PrintSq
attribute [local go_sem] max2_int min2_int max_two min_two max_three min_three max_four min_four   -- for this text's walks alone
set_option linter.unusedVariables false
set_option linter.unusedSimpArgs false

/-! ### strings_Cut: function 29 -/
def strings_Cut.f (a0 : ByteArray) (a1 : ByteArray) : Option (ByteArray × ByteArray × Bool) := if a0.size < 4294967281 then (some (⟨(Lib.cut a0.data.toList a1.data.toList).1.toArray⟩, ⟨(Lib.cut a0.data.toList a1.data.toList).2.1.toArray⟩, (Lib.cut a0.data.toList a1.data.toList).2.2)) else none
theorem strings_Cut.calls (a0 : ByteArray) (a1 : ByteArray) (r1 : ByteArray) (r2 : ByteArray) (r3 : Bool) (w : World) (hG : Amb w) (h : strings_Cut.f a0 a1 = some (r1, r2, r3)) :
    Calls Tryz.prog 29 #[.string a0, .string a1] w fun e w' => e = .returned (.tuple #[.string r1, .string r2, .bool r3]) ∧ Drawn0 w w' := by
 unfold strings_Cut.f at h
 by_cases h0 : a0.size < 4294967281
 ·rw [if_pos h0] at h
  have h := Option.some.inj h
  simp only [Prod.mk.injEq] at h
  obtain ⟨rfl, rfl, rfl⟩ := h
  obtain ⟨m, hm⟩ := hG.mx
  refine (Tryz.strings_Cut a0 a1 m w h0 hm).mono ?_
  rintro e w' ⟨rfl, n, rfl⟩
  exact ⟨rfl, ⟨n, rfl⟩⟩
 ·rw [if_neg h0] at h
  cases h

/-! ### script_known: function 30 -/
/-- The first place, from i on, at which a text stands; 0: nowhere. -/
def script_known.go (s : ByteArray) (i : Int) : List ByteArray → Int
  | [] => 0
  | v :: l => if v.toList = s.toList then i else script_known.go s (i + 1) l
def script_known.g (s : ByteArray) : Int := script_known.go s 1 (Tab0.drop 1)
def script_known.f (a0 : ByteArray) : Option (Int) := some (script_known.g a0)
theorem script_known.ifs (s : ByteArray) : script_known.g s = if (Tab0.getD 1 ByteArray.empty).toList = s.toList then 1 else if (Tab0.getD 2 ByteArray.empty).toList = s.toList then 2 else if (Tab0.getD 3 ByteArray.empty).toList = s.toList then 3 else if (Tab0.getD 4 ByteArray.empty).toList = s.toList then 4 else if (Tab0.getD 5 ByteArray.empty).toList = s.toList then 5 else if (Tab0.getD 6 ByteArray.empty).toList = s.toList then 6 else if (Tab0.getD 7 ByteArray.empty).toList = s.toList then 7 else if (Tab0.getD 8 ByteArray.empty).toList = s.toList then 8 else if (Tab0.getD 9 ByteArray.empty).toList = s.toList then 9 else if (Tab0.getD 10 ByteArray.empty).toList = s.toList then 10 else if (Tab0.getD 11 ByteArray.empty).toList = s.toList then 11 else if (Tab0.getD 12 ByteArray.empty).toList = s.toList then 12 else if (Tab0.getD 13 ByteArray.empty).toList = s.toList then 13 else 0 := rfl
theorem script_known.more {s v : ByteArray} {k : Nat} (h : ∀ j, 0 < j → j < k → (Tab0.getD j ByteArray.empty).toList ≠ s.toList) (hv : Tab0.getD k ByteArray.empty = v) (hn : v.toList ≠ s.toList) : ∀ j, 0 < j → j < k + 1 → (Tab0.getD j ByteArray.empty).toList ≠ s.toList := by
  intro j h1 h2
  by_cases e : j = k
  · subst e; rw [hv]; exact hn
  · exact h j h1 (by omega)
set_option maxHeartbeats 8000000 in
set_option maxRecDepth 100000 in
theorem script_known.calls (s : ByteArray) (r : Int) (w : World) (hG : Amb w) (h : script_known.f s = some r) : Calls Tryz.prog 30 #[.string s] w fun e w' => e = .returned (.int .i64 r) ∧ Drawn0 w w' := by
 obtain rfl := Option.some.inj h
 clear h
 obtain ⟨t, fr, hb⟩ := hG.b0
 have hc : ∀ i, i < 14 → w.cell? ⟨0, i, none⟩ = some (.string (Tab0.getD i ByteArray.empty)) := fun i hi => row_cell Value.string ByteArray.empty Tab0 w _ t fr hb i hi
 obtain ⟨v0, hv0⟩ : ∃ v, Tab0.getD 0 ByteArray.empty = v := ⟨_, rfl⟩
 have e0 := hc 0 (by decide)
 rw [hv0] at e0
 replace hv0 := Aside0.mk hv0
 obtain ⟨v1, hv1⟩ : ∃ v, Tab0.getD 1 ByteArray.empty = v := ⟨_, rfl⟩
 have e1 := hc 1 (by decide)
 rw [hv1] at e1
 replace hv1 := Aside0.mk hv1
 obtain ⟨v2, hv2⟩ : ∃ v, Tab0.getD 2 ByteArray.empty = v := ⟨_, rfl⟩
 have e2 := hc 2 (by decide)
 rw [hv2] at e2
 replace hv2 := Aside0.mk hv2
 obtain ⟨v3, hv3⟩ : ∃ v, Tab0.getD 3 ByteArray.empty = v := ⟨_, rfl⟩
 have e3 := hc 3 (by decide)
 rw [hv3] at e3
 replace hv3 := Aside0.mk hv3
 obtain ⟨v4, hv4⟩ : ∃ v, Tab0.getD 4 ByteArray.empty = v := ⟨_, rfl⟩
 have e4 := hc 4 (by decide)
 rw [hv4] at e4
 replace hv4 := Aside0.mk hv4
 obtain ⟨v5, hv5⟩ : ∃ v, Tab0.getD 5 ByteArray.empty = v := ⟨_, rfl⟩
 have e5 := hc 5 (by decide)
 rw [hv5] at e5
 replace hv5 := Aside0.mk hv5
 obtain ⟨v6, hv6⟩ : ∃ v, Tab0.getD 6 ByteArray.empty = v := ⟨_, rfl⟩
 have e6 := hc 6 (by decide)
 rw [hv6] at e6
 replace hv6 := Aside0.mk hv6
 obtain ⟨v7, hv7⟩ : ∃ v, Tab0.getD 7 ByteArray.empty = v := ⟨_, rfl⟩
 have e7 := hc 7 (by decide)
 rw [hv7] at e7
 replace hv7 := Aside0.mk hv7
 obtain ⟨v8, hv8⟩ : ∃ v, Tab0.getD 8 ByteArray.empty = v := ⟨_, rfl⟩
 have e8 := hc 8 (by decide)
 rw [hv8] at e8
 replace hv8 := Aside0.mk hv8
 obtain ⟨v9, hv9⟩ : ∃ v, Tab0.getD 9 ByteArray.empty = v := ⟨_, rfl⟩
 have e9 := hc 9 (by decide)
 rw [hv9] at e9
 replace hv9 := Aside0.mk hv9
 obtain ⟨v10, hv10⟩ : ∃ v, Tab0.getD 10 ByteArray.empty = v := ⟨_, rfl⟩
 have e10 := hc 10 (by decide)
 rw [hv10] at e10
 replace hv10 := Aside0.mk hv10
 obtain ⟨v11, hv11⟩ : ∃ v, Tab0.getD 11 ByteArray.empty = v := ⟨_, rfl⟩
 have e11 := hc 11 (by decide)
 rw [hv11] at e11
 replace hv11 := Aside0.mk hv11
 obtain ⟨v12, hv12⟩ : ∃ v, Tab0.getD 12 ByteArray.empty = v := ⟨_, rfl⟩
 have e12 := hc 12 (by decide)
 rw [hv12] at e12
 replace hv12 := Aside0.mk hv12
 obtain ⟨v13, hv13⟩ : ∃ v, Tab0.getD 13 ByteArray.empty = v := ⟨_, rfl⟩
 have e13 := hc 13 (by decide)
 rw [hv13] at e13
 replace hv13 := Aside0.mk hv13
 clear hc hb hG
 have h1 : Tryz.prog.underlying 41 = some (.array 14 9) := by kernel_rfl
 have x0 : (Instr.index 41 (.agg #[.string v0, .string v1, .string v2, .string v3, .string v4, .string v5, .string v6, .string v7, .string v8, .string v9, .string v10, .string v11, .string v12, .string v13]) (.int .i64 0)).run Tryz.prog w = .ok (.string v0) w := by simp [Instr.index, run_underlying h1, asIntOf, part, go_sem]
 have x1 : (Instr.index 41 (.agg #[.string v0, .string v1, .string v2, .string v3, .string v4, .string v5, .string v6, .string v7, .string v8, .string v9, .string v10, .string v11, .string v12, .string v13]) (.int .i64 1)).run Tryz.prog w = .ok (.string v1) w := by simp [Instr.index, run_underlying h1, asIntOf, part, go_sem]
 have x2 : (Instr.index 41 (.agg #[.string v0, .string v1, .string v2, .string v3, .string v4, .string v5, .string v6, .string v7, .string v8, .string v9, .string v10, .string v11, .string v12, .string v13]) (.int .i64 2)).run Tryz.prog w = .ok (.string v2) w := by simp [Instr.index, run_underlying h1, asIntOf, part, go_sem]
 have x3 : (Instr.index 41 (.agg #[.string v0, .string v1, .string v2, .string v3, .string v4, .string v5, .string v6, .string v7, .string v8, .string v9, .string v10, .string v11, .string v12, .string v13]) (.int .i64 3)).run Tryz.prog w = .ok (.string v3) w := by simp [Instr.index, run_underlying h1, asIntOf, part, go_sem]
 have x4 : (Instr.index 41 (.agg #[.string v0, .string v1, .string v2, .string v3, .string v4, .string v5, .string v6, .string v7, .string v8, .string v9, .string v10, .string v11, .string v12, .string v13]) (.int .i64 4)).run Tryz.prog w = .ok (.string v4) w := by simp [Instr.index, run_underlying h1, asIntOf, part, go_sem]
 have x5 : (Instr.index 41 (.agg #[.string v0, .string v1, .string v2, .string v3, .string v4, .string v5, .string v6, .string v7, .string v8, .string v9, .string v10, .string v11, .string v12, .string v13]) (.int .i64 5)).run Tryz.prog w = .ok (.string v5) w := by simp [Instr.index, run_underlying h1, asIntOf, part, go_sem]
 have x6 : (Instr.index 41 (.agg #[.string v0, .string v1, .string v2, .string v3, .string v4, .string v5, .string v6, .string v7, .string v8, .string v9, .string v10, .string v11, .string v12, .string v13]) (.int .i64 6)).run Tryz.prog w = .ok (.string v6) w := by simp [Instr.index, run_underlying h1, asIntOf, part, go_sem]
 have x7 : (Instr.index 41 (.agg #[.string v0, .string v1, .string v2, .string v3, .string v4, .string v5, .string v6, .string v7, .string v8, .string v9, .string v10, .string v11, .string v12, .string v13]) (.int .i64 7)).run Tryz.prog w = .ok (.string v7) w := by simp [Instr.index, run_underlying h1, asIntOf, part, go_sem]
 have x8 : (Instr.index 41 (.agg #[.string v0, .string v1, .string v2, .string v3, .string v4, .string v5, .string v6, .string v7, .string v8, .string v9, .string v10, .string v11, .string v12, .string v13]) (.int .i64 8)).run Tryz.prog w = .ok (.string v8) w := by simp [Instr.index, run_underlying h1, asIntOf, part, go_sem]
 have x9 : (Instr.index 41 (.agg #[.string v0, .string v1, .string v2, .string v3, .string v4, .string v5, .string v6, .string v7, .string v8, .string v9, .string v10, .string v11, .string v12, .string v13]) (.int .i64 9)).run Tryz.prog w = .ok (.string v9) w := by simp [Instr.index, run_underlying h1, asIntOf, part, go_sem]
 have x10 : (Instr.index 41 (.agg #[.string v0, .string v1, .string v2, .string v3, .string v4, .string v5, .string v6, .string v7, .string v8, .string v9, .string v10, .string v11, .string v12, .string v13]) (.int .i64 10)).run Tryz.prog w = .ok (.string v10) w := by simp [Instr.index, run_underlying h1, asIntOf, part, go_sem]
 have x11 : (Instr.index 41 (.agg #[.string v0, .string v1, .string v2, .string v3, .string v4, .string v5, .string v6, .string v7, .string v8, .string v9, .string v10, .string v11, .string v12, .string v13]) (.int .i64 11)).run Tryz.prog w = .ok (.string v11) w := by simp [Instr.index, run_underlying h1, asIntOf, part, go_sem]
 have x12 : (Instr.index 41 (.agg #[.string v0, .string v1, .string v2, .string v3, .string v4, .string v5, .string v6, .string v7, .string v8, .string v9, .string v10, .string v11, .string v12, .string v13]) (.int .i64 12)).run Tryz.prog w = .ok (.string v12) w := by simp [Instr.index, run_underlying h1, asIntOf, part, go_sem]
 have x13 : (Instr.index 41 (.agg #[.string v0, .string v1, .string v2, .string v3, .string v4, .string v5, .string v6, .string v7, .string v8, .string v9, .string v10, .string v11, .string v12, .string v13]) (.int .i64 13)).run Tryz.prog w = .ok (.string v13) w := by simp [Instr.index, run_underlying h1, asIntOf, part, go_sem]
 have hg := Aside0.mk (script_known.ifs s)
 go_enter Tryz.func30, Tryz.ntmps30
 go_wp2
 go_loopw [6] (fun i wr => ∃ k : Nat, k ≤ 14 ∧ i = .int .i64 k ∧ wr = w ∧ Aside0 (∀ j, 0 < j → j < k → (Tab0.getD j ByteArray.empty).toList ≠ s.toList)) (fun i _ => 14 - (intOf i).toNat)
 case atStart => exact ⟨0, by omega, rfl, rfl, ⟨fun j h1 h2 => by omega⟩⟩
 case round =>
  obtain ⟨k, hk, rfl, rfl, hall⟩ := hrel
  by_cases hlt : k < 14
  ·have hcs : k = 0 ∨ k = 1 ∨ k = 2 ∨ k = 3 ∨ k = 4 ∨ k = 5 ∨ k = 6 ∨ k = 7 ∨ k = 8 ∨ k = 9 ∨ k = 10 ∨ k = 11 ∨ k = 12 ∨ k = 13 := by omega
   rcases hcs with rfl | rfl | rfl | rfl | rfl | rfl | rfl | rfl | rfl | rfl | rfl | rfl | rfl | rfl
   ·go_wp2
    exact ⟨⟨1, by decide, rfl, trivial, ⟨fun j h1 h2 => by omega⟩⟩, by simp [intOf]⟩
   ·by_cases hv : v1.toList = s.toList
    ·have hq := beq_iff_eq.mpr hv
     have hr := hg.out
     rw [hv1.out, if_pos hv] at hr
     clear hg hv
     go_wp2
     go_ret
     exact ⟨by rw [hr]; rfl, Drawn0.refl _⟩
    ·have hm := Aside0.mk (script_known.more hall.out hv1.out hv)
     have hq := beq_eq_false_iff_ne.mpr hv
     clear hv
     go_wp2
     exact ⟨⟨2, by decide, rfl, trivial, hm⟩, by simp [intOf]⟩
   ·by_cases hv : v2.toList = s.toList
    ·have hq := beq_iff_eq.mpr hv
     have hr := hg.out
     rw [hv1.out, hv2.out, if_neg (hv1.out ▸ hall.out 1 (by decide) (by decide)), if_pos hv] at hr
     clear hg hv
     go_wp2
     go_ret
     exact ⟨by rw [hr]; rfl, Drawn0.refl _⟩
    ·have hm := Aside0.mk (script_known.more hall.out hv2.out hv)
     have hq := beq_eq_false_iff_ne.mpr hv
     clear hv
     go_wp2
     exact ⟨⟨3, by decide, rfl, trivial, hm⟩, by simp [intOf]⟩
   ·by_cases hv : v3.toList = s.toList
    ·have hq := beq_iff_eq.mpr hv
     have hr := hg.out
     rw [hv1.out, hv2.out, hv3.out, if_neg (hv1.out ▸ hall.out 1 (by decide) (by decide)), if_neg (hv2.out ▸ hall.out 2 (by decide) (by decide)), if_pos hv] at hr
     clear hg hv
     go_wp2
     go_ret
     exact ⟨by rw [hr]; rfl, Drawn0.refl _⟩
    ·have hm := Aside0.mk (script_known.more hall.out hv3.out hv)
     have hq := beq_eq_false_iff_ne.mpr hv
     clear hv
     go_wp2
     exact ⟨⟨4, by decide, rfl, trivial, hm⟩, by simp [intOf]⟩
   ·by_cases hv : v4.toList = s.toList
    ·have hq := beq_iff_eq.mpr hv
     have hr := hg.out
     rw [hv1.out, hv2.out, hv3.out, hv4.out, if_neg (hv1.out ▸ hall.out 1 (by decide) (by decide)), if_neg (hv2.out ▸ hall.out 2 (by decide) (by decide)), if_neg (hv3.out ▸ hall.out 3 (by decide) (by decide)), if_pos hv] at hr
     clear hg hv
     go_wp2
     go_ret
     exact ⟨by rw [hr]; rfl, Drawn0.refl _⟩
    ·have hm := Aside0.mk (script_known.more hall.out hv4.out hv)
     have hq := beq_eq_false_iff_ne.mpr hv
     clear hv
     go_wp2
     exact ⟨⟨5, by decide, rfl, trivial, hm⟩, by simp [intOf]⟩
   ·by_cases hv : v5.toList = s.toList
    ·have hq := beq_iff_eq.mpr hv
     have hr := hg.out
     rw [hv1.out, hv2.out, hv3.out, hv4.out, hv5.out, if_neg (hv1.out ▸ hall.out 1 (by decide) (by decide)), if_neg (hv2.out ▸ hall.out 2 (by decide) (by decide)), if_neg (hv3.out ▸ hall.out 3 (by decide) (by decide)), if_neg (hv4.out ▸ hall.out 4 (by decide) (by decide)), if_pos hv] at hr
     clear hg hv
     go_wp2
     go_ret
     exact ⟨by rw [hr]; rfl, Drawn0.refl _⟩
    ·have hm := Aside0.mk (script_known.more hall.out hv5.out hv)
     have hq := beq_eq_false_iff_ne.mpr hv
     clear hv
     go_wp2
     exact ⟨⟨6, by decide, rfl, trivial, hm⟩, by simp [intOf]⟩
   ·by_cases hv : v6.toList = s.toList
    ·have hq := beq_iff_eq.mpr hv
     have hr := hg.out
     rw [hv1.out, hv2.out, hv3.out, hv4.out, hv5.out, hv6.out, if_neg (hv1.out ▸ hall.out 1 (by decide) (by decide)), if_neg (hv2.out ▸ hall.out 2 (by decide) (by decide)), if_neg (hv3.out ▸ hall.out 3 (by decide) (by decide)), if_neg (hv4.out ▸ hall.out 4 (by decide) (by decide)), if_neg (hv5.out ▸ hall.out 5 (by decide) (by decide)), if_pos hv] at hr
     clear hg hv
     go_wp2
     go_ret
     exact ⟨by rw [hr]; rfl, Drawn0.refl _⟩
    ·have hm := Aside0.mk (script_known.more hall.out hv6.out hv)
     have hq := beq_eq_false_iff_ne.mpr hv
     clear hv
     go_wp2
     exact ⟨⟨7, by decide, rfl, trivial, hm⟩, by simp [intOf]⟩
   ·by_cases hv : v7.toList = s.toList
    ·have hq := beq_iff_eq.mpr hv
     have hr := hg.out
     rw [hv1.out, hv2.out, hv3.out, hv4.out, hv5.out, hv6.out, hv7.out, if_neg (hv1.out ▸ hall.out 1 (by decide) (by decide)), if_neg (hv2.out ▸ hall.out 2 (by decide) (by decide)), if_neg (hv3.out ▸ hall.out 3 (by decide) (by decide)), if_neg (hv4.out ▸ hall.out 4 (by decide) (by decide)), if_neg (hv5.out ▸ hall.out 5 (by decide) (by decide)), if_neg (hv6.out ▸ hall.out 6 (by decide) (by decide)), if_pos hv] at hr
     clear hg hv
     go_wp2
     go_ret
     exact ⟨by rw [hr]; rfl, Drawn0.refl _⟩
    ·have hm := Aside0.mk (script_known.more hall.out hv7.out hv)
     have hq := beq_eq_false_iff_ne.mpr hv
     clear hv
     go_wp2
     exact ⟨⟨8, by decide, rfl, trivial, hm⟩, by simp [intOf]⟩
   ·by_cases hv : v8.toList = s.toList
    ·have hq := beq_iff_eq.mpr hv
     have hr := hg.out
     rw [hv1.out, hv2.out, hv3.out, hv4.out, hv5.out, hv6.out, hv7.out, hv8.out, if_neg (hv1.out ▸ hall.out 1 (by decide) (by decide)), if_neg (hv2.out ▸ hall.out 2 (by decide) (by decide)), if_neg (hv3.out ▸ hall.out 3 (by decide) (by decide)), if_neg (hv4.out ▸ hall.out 4 (by decide) (by decide)), if_neg (hv5.out ▸ hall.out 5 (by decide) (by decide)), if_neg (hv6.out ▸ hall.out 6 (by decide) (by decide)), if_neg (hv7.out ▸ hall.out 7 (by decide) (by decide)), if_pos hv] at hr
     clear hg hv
     go_wp2
     go_ret
     exact ⟨by rw [hr]; rfl, Drawn0.refl _⟩
    ·have hm := Aside0.mk (script_known.more hall.out hv8.out hv)
     have hq := beq_eq_false_iff_ne.mpr hv
     clear hv
     go_wp2
     exact ⟨⟨9, by decide, rfl, trivial, hm⟩, by simp [intOf]⟩
   ·by_cases hv : v9.toList = s.toList
    ·have hq := beq_iff_eq.mpr hv
     have hr := hg.out
     rw [hv1.out, hv2.out, hv3.out, hv4.out, hv5.out, hv6.out, hv7.out, hv8.out, hv9.out, if_neg (hv1.out ▸ hall.out 1 (by decide) (by decide)), if_neg (hv2.out ▸ hall.out 2 (by decide) (by decide)), if_neg (hv3.out ▸ hall.out 3 (by decide) (by decide)), if_neg (hv4.out ▸ hall.out 4 (by decide) (by decide)), if_neg (hv5.out ▸ hall.out 5 (by decide) (by decide)), if_neg (hv6.out ▸ hall.out 6 (by decide) (by decide)), if_neg (hv7.out ▸ hall.out 7 (by decide) (by decide)), if_neg (hv8.out ▸ hall.out 8 (by decide) (by decide)), if_pos hv] at hr
     clear hg hv
     go_wp2
     go_ret
     exact ⟨by rw [hr]; rfl, Drawn0.refl _⟩
    ·have hm := Aside0.mk (script_known.more hall.out hv9.out hv)
     have hq := beq_eq_false_iff_ne.mpr hv
     clear hv
     go_wp2
     exact ⟨⟨10, by decide, rfl, trivial, hm⟩, by simp [intOf]⟩
   ·by_cases hv : v10.toList = s.toList
    ·have hq := beq_iff_eq.mpr hv
     have hr := hg.out
     rw [hv1.out, hv2.out, hv3.out, hv4.out, hv5.out, hv6.out, hv7.out, hv8.out, hv9.out, hv10.out, if_neg (hv1.out ▸ hall.out 1 (by decide) (by decide)), if_neg (hv2.out ▸ hall.out 2 (by decide) (by decide)), if_neg (hv3.out ▸ hall.out 3 (by decide) (by decide)), if_neg (hv4.out ▸ hall.out 4 (by decide) (by decide)), if_neg (hv5.out ▸ hall.out 5 (by decide) (by decide)), if_neg (hv6.out ▸ hall.out 6 (by decide) (by decide)), if_neg (hv7.out ▸ hall.out 7 (by decide) (by decide)), if_neg (hv8.out ▸ hall.out 8 (by decide) (by decide)), if_neg (hv9.out ▸ hall.out 9 (by decide) (by decide)), if_pos hv] at hr
     clear hg hv
     go_wp2
     go_ret
     exact ⟨by rw [hr]; rfl, Drawn0.refl _⟩
    ·have hm := Aside0.mk (script_known.more hall.out hv10.out hv)
     have hq := beq_eq_false_iff_ne.mpr hv
     clear hv
     go_wp2
     exact ⟨⟨11, by decide, rfl, trivial, hm⟩, by simp [intOf]⟩
   ·by_cases hv : v11.toList = s.toList
    ·have hq := beq_iff_eq.mpr hv
     have hr := hg.out
     rw [hv1.out, hv2.out, hv3.out, hv4.out, hv5.out, hv6.out, hv7.out, hv8.out, hv9.out, hv10.out, hv11.out, if_neg (hv1.out ▸ hall.out 1 (by decide) (by decide)), if_neg (hv2.out ▸ hall.out 2 (by decide) (by decide)), if_neg (hv3.out ▸ hall.out 3 (by decide) (by decide)), if_neg (hv4.out ▸ hall.out 4 (by decide) (by decide)), if_neg (hv5.out ▸ hall.out 5 (by decide) (by decide)), if_neg (hv6.out ▸ hall.out 6 (by decide) (by decide)), if_neg (hv7.out ▸ hall.out 7 (by decide) (by decide)), if_neg (hv8.out ▸ hall.out 8 (by decide) (by decide)), if_neg (hv9.out ▸ hall.out 9 (by decide) (by decide)), if_neg (hv10.out ▸ hall.out 10 (by decide) (by decide)), if_pos hv] at hr
     clear hg hv
     go_wp2
     go_ret
     exact ⟨by rw [hr]; rfl, Drawn0.refl _⟩
    ·have hm := Aside0.mk (script_known.more hall.out hv11.out hv)
     have hq := beq_eq_false_iff_ne.mpr hv
     clear hv
     go_wp2
     exact ⟨⟨12, by decide, rfl, trivial, hm⟩, by simp [intOf]⟩
   ·by_cases hv : v12.toList = s.toList
    ·have hq := beq_iff_eq.mpr hv
     have hr := hg.out
     rw [hv1.out, hv2.out, hv3.out, hv4.out, hv5.out, hv6.out, hv7.out, hv8.out, hv9.out, hv10.out, hv11.out, hv12.out, if_neg (hv1.out ▸ hall.out 1 (by decide) (by decide)), if_neg (hv2.out ▸ hall.out 2 (by decide) (by decide)), if_neg (hv3.out ▸ hall.out 3 (by decide) (by decide)), if_neg (hv4.out ▸ hall.out 4 (by decide) (by decide)), if_neg (hv5.out ▸ hall.out 5 (by decide) (by decide)), if_neg (hv6.out ▸ hall.out 6 (by decide) (by decide)), if_neg (hv7.out ▸ hall.out 7 (by decide) (by decide)), if_neg (hv8.out ▸ hall.out 8 (by decide) (by decide)), if_neg (hv9.out ▸ hall.out 9 (by decide) (by decide)), if_neg (hv10.out ▸ hall.out 10 (by decide) (by decide)), if_neg (hv11.out ▸ hall.out 11 (by decide) (by decide)), if_pos hv] at hr
     clear hg hv
     go_wp2
     go_ret
     exact ⟨by rw [hr]; rfl, Drawn0.refl _⟩
    ·have hm := Aside0.mk (script_known.more hall.out hv12.out hv)
     have hq := beq_eq_false_iff_ne.mpr hv
     clear hv
     go_wp2
     exact ⟨⟨13, by decide, rfl, trivial, hm⟩, by simp [intOf]⟩
   ·by_cases hv : v13.toList = s.toList
    ·have hq := beq_iff_eq.mpr hv
     have hr := hg.out
     rw [hv1.out, hv2.out, hv3.out, hv4.out, hv5.out, hv6.out, hv7.out, hv8.out, hv9.out, hv10.out, hv11.out, hv12.out, hv13.out, if_neg (hv1.out ▸ hall.out 1 (by decide) (by decide)), if_neg (hv2.out ▸ hall.out 2 (by decide) (by decide)), if_neg (hv3.out ▸ hall.out 3 (by decide) (by decide)), if_neg (hv4.out ▸ hall.out 4 (by decide) (by decide)), if_neg (hv5.out ▸ hall.out 5 (by decide) (by decide)), if_neg (hv6.out ▸ hall.out 6 (by decide) (by decide)), if_neg (hv7.out ▸ hall.out 7 (by decide) (by decide)), if_neg (hv8.out ▸ hall.out 8 (by decide) (by decide)), if_neg (hv9.out ▸ hall.out 9 (by decide) (by decide)), if_neg (hv10.out ▸ hall.out 10 (by decide) (by decide)), if_neg (hv11.out ▸ hall.out 11 (by decide) (by decide)), if_neg (hv12.out ▸ hall.out 12 (by decide) (by decide)), if_pos hv] at hr
     clear hg hv
     go_wp2
     go_ret
     exact ⟨by rw [hr]; rfl, Drawn0.refl _⟩
    ·have hm := Aside0.mk (script_known.more hall.out hv13.out hv)
     have hq := beq_eq_false_iff_ne.mpr hv
     clear hv
     go_wp2
     exact ⟨⟨14, by decide, rfl, trivial, hm⟩, by simp [intOf]⟩
  ·have hr := hg.out
   rw [hv1.out, hv2.out, hv3.out, hv4.out, hv5.out, hv6.out, hv7.out, hv8.out, hv9.out, hv10.out, hv11.out, hv12.out, hv13.out, if_neg (hv1.out ▸ hall.out 1 (by omega) (by omega)), if_neg (hv2.out ▸ hall.out 2 (by omega) (by omega)), if_neg (hv3.out ▸ hall.out 3 (by omega) (by omega)), if_neg (hv4.out ▸ hall.out 4 (by omega) (by omega)), if_neg (hv5.out ▸ hall.out 5 (by omega) (by omega)), if_neg (hv6.out ▸ hall.out 6 (by omega) (by omega)), if_neg (hv7.out ▸ hall.out 7 (by omega) (by omega)), if_neg (hv8.out ▸ hall.out 8 (by omega) (by omega)), if_neg (hv9.out ▸ hall.out 9 (by omega) (by omega)), if_neg (hv10.out ▸ hall.out 10 (by omega) (by omega)), if_neg (hv11.out ▸ hall.out 11 (by omega) (by omega)), if_neg (hv12.out ▸ hall.out 12 (by omega) (by omega)), if_neg (hv13.out ▸ hall.out 13 (by omega) (by omega))] at hr
   clear hg
   obtain rfl : k = 14 := by omega
   go_wp2
   go_ret
   exact ⟨by rw [hr]; rfl, Drawn0.refl _⟩

/-! ### script_count: function 31 -/
def script_count.f (a0 : Int) : Option (Int) := if a0 = 1 then (some 0) else (if a0 = 3 then (some 3) else (if a0 = 4 then (some 2) else (if a0 = 8 then (some 2) else (if a0 = 13 then (some 2) else (some 1)))))
set_option maxHeartbeats 8000000 in
set_option maxRecDepth 100000 in
theorem script_count.calls (a0 : Int) (r : Int) (w : World) (h : script_count.f a0 = some r) :
    Calls Tryz.prog 31 #[.int .i64 a0] w fun e w' => e = .returned (.int .i64 r) ∧ Drawn0 w w' := by
 unfold script_count.f at h
 have H := h
 clear h
 by_cases c2 : a0 = 1
 ·rw [if_pos c2] at H
  have c2b0 := beq_iff_eq.mpr c2
  have c2b1 := bne_eq_false_iff_eq.mpr c2
  clear c2
  obtain rfl := Option.some.inj H
  go_enter Tryz.func31, Tryz.ntmps31
  go_wp2
  go_ret
  exact ⟨eqs, drw⟩
 ·rw [if_neg c2] at H
  have c2b0 := beq_eq_false_iff_ne.mpr c2
  have c2b1 := bne_iff_ne.mpr c2
  by_cases c3 : a0 = 3
  ·rw [if_pos c3] at H
   have c3b0 := beq_iff_eq.mpr c3
   have c3b1 := bne_eq_false_iff_eq.mpr c3
   clear c3
   obtain rfl := Option.some.inj H
   go_enter Tryz.func31, Tryz.ntmps31
   go_wp2
   go_ret
   exact ⟨eqs, drw⟩
  ·rw [if_neg c3] at H
   have c3b0 := beq_eq_false_iff_ne.mpr c3
   have c3b1 := bne_iff_ne.mpr c3
   by_cases c4 : a0 = 4
   ·rw [if_pos c4] at H
    have c4b0 := beq_iff_eq.mpr c4
    have c4b1 := bne_eq_false_iff_eq.mpr c4
    clear c4
    obtain rfl := Option.some.inj H
    go_enter Tryz.func31, Tryz.ntmps31
    go_wp2
    go_ret
    exact ⟨eqs, drw⟩
   ·rw [if_neg c4] at H
    have c4b0 := beq_eq_false_iff_ne.mpr c4
    have c4b1 := bne_iff_ne.mpr c4
    by_cases c5 : a0 = 8
    ·rw [if_pos c5] at H
     have c5b0 := beq_iff_eq.mpr c5
     have c5b1 := bne_eq_false_iff_eq.mpr c5
     clear c5
     obtain rfl := Option.some.inj H
     go_enter Tryz.func31, Tryz.ntmps31
     go_wp2
     go_ret
     exact ⟨eqs, drw⟩
    ·rw [if_neg c5] at H
     have c5b0 := beq_eq_false_iff_ne.mpr c5
     have c5b1 := bne_iff_ne.mpr c5
     by_cases c6 : a0 = 13
     ·rw [if_pos c6] at H
      have c6b0 := beq_iff_eq.mpr c6
      have c6b1 := bne_eq_false_iff_eq.mpr c6
      clear c6
      obtain rfl := Option.some.inj H
      go_enter Tryz.func31, Tryz.ntmps31
      go_wp2
      go_ret
      exact ⟨eqs, drw⟩
     ·rw [if_neg c6] at H
      have c6b0 := beq_eq_false_iff_ne.mpr c6
      have c6b1 := bne_iff_ne.mpr c6
      obtain rfl := Option.some.inj H
      go_enter Tryz.func31, Tryz.ntmps31
      go_wp2
      go_ret
      exact ⟨eqs, drw⟩

/-! ### strings_SplitN: function 32 -/
def strings_SplitN.f (a0 : ByteArray) (a1 : ByteArray) (a2 : Int) : Option (List ByteArray) := if a0.size < 4294967281 then (if 1 ≤ a1.size then (if 1 ≤ a2 then (if a2 ≤ 9223372036854775807 then (some (Lib.splitB a1 0 (min a2.toNat (a0.size + 1) - 1) a0)) else none) else none) else none) else none
theorem strings_SplitN.len (sep : ByteArray) : ∀ (k : Nat) (s : ByteArray), (Lib.splitB sep 0 k s).length ≤ k + 1
  | 0, s => by simp [Lib.splitB]
  | k + 1, s => by
    unfold Lib.splitB
    split
    · simp
    · have := strings_SplitN.len sep k (s.extract ((Lib.indexB s sep).toNat + sep.size) s.size)
      simp only [List.length_cons]
      omega
theorem strings_SplitN.own (w : World) (xs : List ByteArray) (c : Nat) (hx : xs.length ≤ c) (hc : c ≤ maxLen) : Kd.R Kd.string 9 (w.alloc (.cells (Lib.cellsOf xs c) 9)) w.heap.size (fun _ => True) (.slice (some ⟨w.heap.size, 0, none⟩) xs.length c) xs := by
  refine Kd.R_of_own ⟨by simp [encs], .inr ⟨w.heap.size, c, Lib.cellsOf xs c, rfl, Nat.le_refl _, ?_, hx, hc, ?_, ?_⟩⟩ (fun _ _ => trivial)
  · show (w.heap.push _)[w.heap.size]? = _
    simp
  · unfold Lib.cellsOf
    simp
    omega
  · unfold Lib.cellsOf
    simp [encs]
theorem strings_SplitN.calls (a0 : ByteArray) (a1 : ByteArray) (a2 : Int) (r : List ByteArray) (w : World) (hG : Amb w) (h : strings_SplitN.f a0 a1 a2 = some r) :
    Calls Tryz.prog 32 #[.string a0, .string a1, .int .i64 a2] w fun e w' => ∃ v0_ : Value, e = .returned (v0_) ∧ Kd.R Kd.string 9 w' w.heap.size (fun _ => True) v0_ r ∧ Below w.heap.size w w' := by
 unfold strings_SplitN.f at h
 by_cases h0 : a0.size < 4294967281
 ·rw [if_pos h0] at h
  by_cases h1 : 1 ≤ a1.size
  ·rw [if_pos h1] at h
   by_cases h2 : 1 ≤ a2
   ·rw [if_pos h2] at h
    by_cases h3 : a2 ≤ 9223372036854775807
    ·rw [if_pos h3] at h
     obtain rfl := Option.some.inj h
     obtain ⟨m, hm⟩ := hG.mx
     obtain ⟨n, rfl⟩ : ∃ n : Nat, a2 = n := ⟨a2.toNat, by omega⟩
     refine (Tryz.strings_SplitN a0 a1 n m w h0 hm h1 (by omega) (by omega)).mono ?_
     rintro e w' ⟨rfl, rfl⟩
     refine ⟨_, rfl, ?_, below_alloc (Below.refl _ _) _⟩
     exact strings_SplitN.own w _ _ (by have := strings_SplitN.len a1 (min n (a0.size + 1) - 1) a0; omega) (by unfold maxLen; omega)
    ·rw [if_neg h3] at h
     cases h
   ·rw [if_neg h2] at h
    cases h
  ·rw [if_neg h1] at h
   cases h
 ·rw [if_neg h0] at h
  cases h

/-! ### strings_IndexByte: function 24 -/
def strings_IndexByte.f (a0 : ByteArray) (a1 : Int) : Option (Int) := some (Lib.indexByte a0.data.toList a1.toNat.toUInt8)
theorem strings_IndexByte.calls (a0 : ByteArray) (a1 : Int) (r : Int) (w : World) (h : strings_IndexByte.f a0 a1 = some r) :
    Calls Tryz.prog 24 #[.string a0, .int .u8 a1] w fun e w' => e = .returned (.int .i64 r) ∧ Drawn0 w w' := by
 unfold strings_IndexByte.f at h
 obtain rfl := Option.some.inj h
 refine (Tryz.strings_IndexByte a0 a1 w).mono ?_
 rintro e w' ⟨rfl, rfl⟩
 exact ⟨rfl, Drawn0.refl _⟩

/-! ### script_sign: function 13 -/
def script_sign.f (a0 : ByteArray) : Option (Int × Int) := if a0.toList = ([] : List UInt8) then (some (0, 0)) else (if 0 < (a0.size : Int) then (if (bt a0 0) = 114 then (some (13, 1)) else (if (bt a0 0) = 110 then (some (10, 1)) else (if (bt a0 0) = 92 then (some (92, 1)) else (if (bt a0 0) = 120 then (if (a0.size : Int) < 3 then (some (0, 0)) else (if 1 < (a0.size : Int) then ((strings_IndexByte.f (⟨#[48, 49, 50, 51, 52, 53, 54, 55, 56, 57, 97, 98, 99, 100, 101, 102]⟩ : ByteArray) (bt a0 1)).bind fun t105 => (if 2 < (a0.size : Int) then ((strings_IndexByte.f (⟨#[48, 49, 50, 51, 52, 53, 54, 55, 56, 57, 97, 98, 99, 100, 101, 102]⟩ : ByteArray) (bt a0 2)).bind fun t106 => (if t105 < 0 then (some (0, 0)) else (if t106 < 0 then (some (0, 0)) else (some ((Go.bits .or .i64 (wrap64 (t105 * 16)) t106) % 256, 3))))) else (none))) else (none))) else (some (0, 0)))))) else (none))
set_option maxHeartbeats 8000000 in
set_option maxRecDepth 100000 in
theorem script_sign.calls (a0 : ByteArray) (r1 : Int) (r2 : Int) (w : World) (h : script_sign.f a0 = some (r1, r2)) :
    Calls Tryz.prog 13 #[.string a0] w fun e w' => e = .returned (.tuple #[.int .u8 r1, .int .i64 r2]) ∧ Drawn0 w w' := by
 unfold script_sign.f at h
 have H := h
 clear h
 by_cases c2 : a0.toList = ([] : List UInt8)
 ·rw [if_pos c2] at H
  have c2b0 := beq_iff_eq.mpr c2
  have c2b1 := bne_eq_false_iff_eq.mpr c2
  clear c2
  simp only [Option.some.injEq, Prod.mk.injEq] at H
  obtain ⟨rfl, rfl⟩ := H
  go_enter Tryz.func13, Tryz.ntmps13
  go_wp2
  repeat (go_quiet (fail); try go_wp2)
  go_ret2
  exact ⟨by first | rfl | (simp; done) | (simp [*]; done) | (simp; exact (by intro l_; cases l_ <;> rfl : ∀ l_ : List UInt8, l_.isEmpty = !(l_ != [])) _), drw⟩
 ·rw [if_neg c2] at H
  have c2b0 := beq_eq_false_iff_ne.mpr c2
  have c2b1 := bne_iff_ne.mpr c2
  obtain ⟨c3, H⟩ := iteS H
  have c3b0 := decide_eq_true c3
  have c3b1 : decide (0 < a0.size) = true := decide_eq_true (by omega)
  clear c3
  by_cases c5 : (bt a0 0) = 114
  ·rw [if_pos c5] at H
   have c5b0 := beq_iff_eq.mpr c5
   have c5b1 := bne_eq_false_iff_eq.mpr c5
   clear c5
   simp only [Option.some.injEq, Prod.mk.injEq] at H
   obtain ⟨rfl, rfl⟩ := H
   have p4 : 0 ≤ (0 : Int) := (by omega)
   have q4 : 0 < a0.size := (by have : (0 : Int) < (a0.size : Int) := od_; omega)
   have hx4 : ∀ h : 0 < a0.size, ((a0[0]'h).toNat : Int) = bt a0 0 := bt_at a0 0
   clear p4
   have qi4 : (0 < (a0.size : Int)) = True := eq_true (od_)
   replace q4 := eq_true q4
   go_enter Tryz.func13, Tryz.ntmps13
   go_wp2
   repeat (go_quiet (fail); try go_wp2)
   go_ret2
   exact ⟨by first | rfl | (simp; done) | (simp [*]; done) | (simp; exact (by intro l_; cases l_ <;> rfl : ∀ l_ : List UInt8, l_.isEmpty = !(l_ != [])) _), drw⟩
  ·rw [if_neg c5] at H
   have c5b0 := beq_eq_false_iff_ne.mpr c5
   have c5b1 := bne_iff_ne.mpr c5
   by_cases c7 : (bt a0 0) = 110
   ·rw [if_pos c7] at H
    have c7b0 := beq_iff_eq.mpr c7
    have c7b1 := bne_eq_false_iff_eq.mpr c7
    clear c7
    simp only [Option.some.injEq, Prod.mk.injEq] at H
    obtain ⟨rfl, rfl⟩ := H
    have p4 : 0 ≤ (0 : Int) := (by omega)
    have q4 : 0 < a0.size := (by have : (0 : Int) < (a0.size : Int) := od_; omega)
    have hx4 : ∀ h : 0 < a0.size, ((a0[0]'h).toNat : Int) = bt a0 0 := bt_at a0 0
    clear p4
    have qi4 : (0 < (a0.size : Int)) = True := eq_true (od_)
    replace q4 := eq_true q4
    have p6 : 0 ≤ (0 : Int) := (by omega)
    have q6 : 0 < a0.size := (by have : (0 : Int) < (a0.size : Int) := od_; omega)
    have hx6 : ∀ h : 0 < a0.size, ((a0[0]'h).toNat : Int) = bt a0 0 := bt_at a0 0
    clear p6
    have qi6 : (0 < (a0.size : Int)) = True := eq_true (od_)
    replace q6 := eq_true q6
    go_enter Tryz.func13, Tryz.ntmps13
    go_wp2
    repeat (go_quiet (fail); try go_wp2)
    go_ret2
    exact ⟨by first | rfl | (simp; done) | (simp [*]; done) | (simp; exact (by intro l_; cases l_ <;> rfl : ∀ l_ : List UInt8, l_.isEmpty = !(l_ != [])) _), drw⟩
   ·rw [if_neg c7] at H
    have c7b0 := beq_eq_false_iff_ne.mpr c7
    have c7b1 := bne_iff_ne.mpr c7
    by_cases c9 : (bt a0 0) = 92
    ·rw [if_pos c9] at H
     have c9b0 := beq_iff_eq.mpr c9
     have c9b1 := bne_eq_false_iff_eq.mpr c9
     clear c9
     simp only [Option.some.injEq, Prod.mk.injEq] at H
     obtain ⟨rfl, rfl⟩ := H
     have p4 : 0 ≤ (0 : Int) := (by omega)
     have q4 : 0 < a0.size := (by have : (0 : Int) < (a0.size : Int) := od_; omega)
     have hx4 : ∀ h : 0 < a0.size, ((a0[0]'h).toNat : Int) = bt a0 0 := bt_at a0 0
     clear p4
     have qi4 : (0 < (a0.size : Int)) = True := eq_true (od_)
     replace q4 := eq_true q4
     have p6 : 0 ≤ (0 : Int) := (by omega)
     have q6 : 0 < a0.size := (by have : (0 : Int) < (a0.size : Int) := od_; omega)
     have hx6 : ∀ h : 0 < a0.size, ((a0[0]'h).toNat : Int) = bt a0 0 := bt_at a0 0
     clear p6
     have qi6 : (0 < (a0.size : Int)) = True := eq_true (od_)
     replace q6 := eq_true q6
     have p8 : 0 ≤ (0 : Int) := (by omega)
     have q8 : 0 < a0.size := (by have : (0 : Int) < (a0.size : Int) := od_; omega)
     have hx8 : ∀ h : 0 < a0.size, ((a0[0]'h).toNat : Int) = bt a0 0 := bt_at a0 0
     clear p8
     have qi8 : (0 < (a0.size : Int)) = True := eq_true (od_)
     replace q8 := eq_true q8
     go_enter Tryz.func13, Tryz.ntmps13
     go_wp2
     repeat (go_quiet (fail); try go_wp2)
     go_ret2
     exact ⟨by first | rfl | (simp; done) | (simp [*]; done) | (simp; exact (by intro l_; cases l_ <;> rfl : ∀ l_ : List UInt8, l_.isEmpty = !(l_ != [])) _), drw⟩
    ·rw [if_neg c9] at H
     have c9b0 := beq_eq_false_iff_ne.mpr c9
     have c9b1 := bne_iff_ne.mpr c9
     by_cases c11 : (bt a0 0) = 120
     ·rw [if_pos c11] at H
      have c11b0 := beq_iff_eq.mpr c11
      have c11b1 := bne_eq_false_iff_eq.mpr c11
      clear c11
      by_cases c12 : (a0.size : Int) < 3
      ·rw [if_pos c12] at H
       have c12b0 := decide_eq_true c12
       have c12b1 : decide (a0.size < 3) = true := decide_eq_true (by omega)
       clear c12
       simp only [Option.some.injEq, Prod.mk.injEq] at H
       obtain ⟨rfl, rfl⟩ := H
       have p4 : 0 ≤ (0 : Int) := (by omega)
       have q4 : 0 < a0.size := (by have : (0 : Int) < (a0.size : Int) := od_; omega)
       have hx4 : ∀ h : 0 < a0.size, ((a0[0]'h).toNat : Int) = bt a0 0 := bt_at a0 0
       clear p4
       have qi4 : (0 < (a0.size : Int)) = True := eq_true (od_)
       replace q4 := eq_true q4
       have p6 : 0 ≤ (0 : Int) := (by omega)
       have q6 : 0 < a0.size := (by have : (0 : Int) < (a0.size : Int) := od_; omega)
       have hx6 : ∀ h : 0 < a0.size, ((a0[0]'h).toNat : Int) = bt a0 0 := bt_at a0 0
       clear p6
       have qi6 : (0 < (a0.size : Int)) = True := eq_true (od_)
       replace q6 := eq_true q6
       have p8 : 0 ≤ (0 : Int) := (by omega)
       have q8 : 0 < a0.size := (by have : (0 : Int) < (a0.size : Int) := od_; omega)
       have hx8 : ∀ h : 0 < a0.size, ((a0[0]'h).toNat : Int) = bt a0 0 := bt_at a0 0
       clear p8
       have qi8 : (0 < (a0.size : Int)) = True := eq_true (od_)
       replace q8 := eq_true q8
       have p10 : 0 ≤ (0 : Int) := (by omega)
       have q10 : 0 < a0.size := (by have : (0 : Int) < (a0.size : Int) := od_; omega)
       have hx10 : ∀ h : 0 < a0.size, ((a0[0]'h).toNat : Int) = bt a0 0 := bt_at a0 0
       clear p10
       have qi10 : (0 < (a0.size : Int)) = True := eq_true (od_)
       replace q10 := eq_true q10
       go_enter Tryz.func13, Tryz.ntmps13
       go_wp2
       repeat (go_quiet (fail); try go_wp2)
       go_ret2
       exact ⟨by first | rfl | (simp; done) | (simp [*]; done) | (simp; exact (by intro l_; cases l_ <;> rfl : ∀ l_ : List UInt8, l_.isEmpty = !(l_ != [])) _), drw⟩
      ·rw [if_neg c12] at H
       have c12b0 := decide_eq_false c12
       have c12b1 : decide (a0.size < 3) = false := decide_eq_false (by omega)
       clear c12
       obtain ⟨c13, H⟩ := iteS H
       have c13b0 := decide_eq_true c13
       have c13b1 : decide (1 < a0.size) = true := decide_eq_true (by omega)
       clear c13
       replace H := Option.bind_eq_some_iff.mp H
       obtain ⟨t105, A150, H⟩ := H
       try dsimp only at H
       have A15 := Aside0.mk A150
       clear A150
       obtain ⟨c16, H⟩ := iteS H
       have c16b0 := decide_eq_true c16
       have c16b1 : decide (2 < a0.size) = true := decide_eq_true (by omega)
       clear c16
       replace H := Option.bind_eq_some_iff.mp H
       obtain ⟨t106, A180, H⟩ := H
       try dsimp only at H
       have A18 := Aside0.mk A180
       clear A180
       by_cases c19 : t105 < 0
       ·rw [if_pos c19] at H
        have c19b0 := decide_eq_true c19
        clear c19
        simp only [Option.some.injEq, Prod.mk.injEq] at H
        obtain ⟨rfl, rfl⟩ := H
        have p4 : 0 ≤ (0 : Int) := (by omega)
        have q4 : 0 < a0.size := (by have : (0 : Int) < (a0.size : Int) := od_; omega)
        have hx4 : ∀ h : 0 < a0.size, ((a0[0]'h).toNat : Int) = bt a0 0 := bt_at a0 0
        clear p4
        have qi4 : (0 < (a0.size : Int)) = True := eq_true (od_)
        replace q4 := eq_true q4
        have p6 : 0 ≤ (0 : Int) := (by omega)
        have q6 : 0 < a0.size := (by have : (0 : Int) < (a0.size : Int) := od_; omega)
        have hx6 : ∀ h : 0 < a0.size, ((a0[0]'h).toNat : Int) = bt a0 0 := bt_at a0 0
        clear p6
        have qi6 : (0 < (a0.size : Int)) = True := eq_true (od_)
        replace q6 := eq_true q6
        have p8 : 0 ≤ (0 : Int) := (by omega)
        have q8 : 0 < a0.size := (by have : (0 : Int) < (a0.size : Int) := od_; omega)
        have hx8 : ∀ h : 0 < a0.size, ((a0[0]'h).toNat : Int) = bt a0 0 := bt_at a0 0
        clear p8
        have qi8 : (0 < (a0.size : Int)) = True := eq_true (od_)
        replace q8 := eq_true q8
        have p10 : 0 ≤ (0 : Int) := (by omega)
        have q10 : 0 < a0.size := (by have : (0 : Int) < (a0.size : Int) := od_; omega)
        have hx10 : ∀ h : 0 < a0.size, ((a0[0]'h).toNat : Int) = bt a0 0 := bt_at a0 0
        clear p10
        have qi10 : (0 < (a0.size : Int)) = True := eq_true (od_)
        replace q10 := eq_true q10
        have p14 : 0 ≤ (1 : Int) := (by omega)
        have q14 : 1 < a0.size := (by have : (1 : Int) < (a0.size : Int) := od_; omega)
        have hx14 : ∀ h : 1 < a0.size, ((a0[1]'h).toNat : Int) = bt a0 1 := bt_at a0 1
        clear p14
        have qi14 : (1 < (a0.size : Int)) = True := eq_true (od_)
        replace q14 := eq_true q14
        go_enter Tryz.func13, Tryz.ntmps13
        go_wp2_with (first | (go_at_call 24; (with_reducible refine (strings_IndexByte.calls (⟨#[48, 49, 50, 51, 52, 53, 54, 55, 56, 57, 97, 98, 99, 100, 101, 102]⟩ : ByteArray) (bt a0 1) t105 _ A15.out).mono ?_); rintro e w' ⟨rfl, ⟨nd, rfl⟩⟩; (try first | exact ⟨rfl, _, World.drewN_drewN _ _ _⟩ | exact ⟨rfl, _, Eq.trans (World.drewN_drewN _ _ _) (congrArg (World.drewN _) (Nat.add_assoc _ _ _))⟩); have p17 : 0 ≤ (2 : Int) := (by omega); have q17 : 2 < a0.size := (by have : (2 : Int) < (a0.size : Int) := od_; omega); have hx17 : ∀ h : 2 < a0.size, ((a0[2]'h).toNat : Int) = bt a0 2 := bt_at a0 2; clear p17; have qi17 : (2 < (a0.size : Int)) = True := eq_true (od_); replace q17 := eq_true q17) | (go_at_call 24; (with_reducible refine (strings_IndexByte.calls (⟨#[48, 49, 50, 51, 52, 53, 54, 55, 56, 57, 97, 98, 99, 100, 101, 102]⟩ : ByteArray) (bt a0 2) t106 _ A18.out).mono ?_); rintro e w' ⟨rfl, ⟨nd, rfl⟩⟩; (try first | exact ⟨rfl, _, World.drewN_drewN _ _ _⟩ | exact ⟨rfl, _, Eq.trans (World.drewN_drewN _ _ _) (congrArg (World.drewN _) (Nat.add_assoc _ _ _))⟩)))
        repeat (go_quiet (first | (go_at_call 24; (with_reducible refine (strings_IndexByte.calls (⟨#[48, 49, 50, 51, 52, 53, 54, 55, 56, 57, 97, 98, 99, 100, 101, 102]⟩ : ByteArray) (bt a0 1) t105 _ A15.out).mono ?_); rintro e w' ⟨rfl, ⟨nd, rfl⟩⟩; (try first | exact ⟨rfl, _, World.drewN_drewN _ _ _⟩ | exact ⟨rfl, _, Eq.trans (World.drewN_drewN _ _ _) (congrArg (World.drewN _) (Nat.add_assoc _ _ _))⟩); have p17 : 0 ≤ (2 : Int) := (by omega); have q17 : 2 < a0.size := (by have : (2 : Int) < (a0.size : Int) := od_; omega); have hx17 : ∀ h : 2 < a0.size, ((a0[2]'h).toNat : Int) = bt a0 2 := bt_at a0 2; clear p17; have qi17 : (2 < (a0.size : Int)) = True := eq_true (od_); replace q17 := eq_true q17) | (go_at_call 24; (with_reducible refine (strings_IndexByte.calls (⟨#[48, 49, 50, 51, 52, 53, 54, 55, 56, 57, 97, 98, 99, 100, 101, 102]⟩ : ByteArray) (bt a0 2) t106 _ A18.out).mono ?_); rintro e w' ⟨rfl, ⟨nd, rfl⟩⟩; (try first | exact ⟨rfl, _, World.drewN_drewN _ _ _⟩ | exact ⟨rfl, _, Eq.trans (World.drewN_drewN _ _ _) (congrArg (World.drewN _) (Nat.add_assoc _ _ _))⟩))); try go_wp2_with (first | (go_at_call 24; (with_reducible refine (strings_IndexByte.calls (⟨#[48, 49, 50, 51, 52, 53, 54, 55, 56, 57, 97, 98, 99, 100, 101, 102]⟩ : ByteArray) (bt a0 1) t105 _ A15.out).mono ?_); rintro e w' ⟨rfl, ⟨nd, rfl⟩⟩; (try first | exact ⟨rfl, _, World.drewN_drewN _ _ _⟩ | exact ⟨rfl, _, Eq.trans (World.drewN_drewN _ _ _) (congrArg (World.drewN _) (Nat.add_assoc _ _ _))⟩); have p17 : 0 ≤ (2 : Int) := (by omega); have q17 : 2 < a0.size := (by have : (2 : Int) < (a0.size : Int) := od_; omega); have hx17 : ∀ h : 2 < a0.size, ((a0[2]'h).toNat : Int) = bt a0 2 := bt_at a0 2; clear p17; have qi17 : (2 < (a0.size : Int)) = True := eq_true (od_); replace q17 := eq_true q17) | (go_at_call 24; (with_reducible refine (strings_IndexByte.calls (⟨#[48, 49, 50, 51, 52, 53, 54, 55, 56, 57, 97, 98, 99, 100, 101, 102]⟩ : ByteArray) (bt a0 2) t106 _ A18.out).mono ?_); rintro e w' ⟨rfl, ⟨nd, rfl⟩⟩; (try first | exact ⟨rfl, _, World.drewN_drewN _ _ _⟩ | exact ⟨rfl, _, Eq.trans (World.drewN_drewN _ _ _) (congrArg (World.drewN _) (Nat.add_assoc _ _ _))⟩))))
        go_ret2
        exact ⟨by first | rfl | (simp; done) | (simp [*]; done) | (simp; exact (by intro l_; cases l_ <;> rfl : ∀ l_ : List UInt8, l_.isEmpty = !(l_ != [])) _), drw⟩
       ·rw [if_neg c19] at H
        have c19b0 := decide_eq_false c19
        clear c19
        by_cases c20 : t106 < 0
        ·rw [if_pos c20] at H
         have c20b0 := decide_eq_true c20
         clear c20
         simp only [Option.some.injEq, Prod.mk.injEq] at H
         obtain ⟨rfl, rfl⟩ := H
         have p4 : 0 ≤ (0 : Int) := (by omega)
         have q4 : 0 < a0.size := (by have : (0 : Int) < (a0.size : Int) := od_; omega)
         have hx4 : ∀ h : 0 < a0.size, ((a0[0]'h).toNat : Int) = bt a0 0 := bt_at a0 0
         clear p4
         have qi4 : (0 < (a0.size : Int)) = True := eq_true (od_)
         replace q4 := eq_true q4
         have p6 : 0 ≤ (0 : Int) := (by omega)
         have q6 : 0 < a0.size := (by have : (0 : Int) < (a0.size : Int) := od_; omega)
         have hx6 : ∀ h : 0 < a0.size, ((a0[0]'h).toNat : Int) = bt a0 0 := bt_at a0 0
         clear p6
         have qi6 : (0 < (a0.size : Int)) = True := eq_true (od_)
         replace q6 := eq_true q6
         have p8 : 0 ≤ (0 : Int) := (by omega)
         have q8 : 0 < a0.size := (by have : (0 : Int) < (a0.size : Int) := od_; omega)
         have hx8 : ∀ h : 0 < a0.size, ((a0[0]'h).toNat : Int) = bt a0 0 := bt_at a0 0
         clear p8
         have qi8 : (0 < (a0.size : Int)) = True := eq_true (od_)
         replace q8 := eq_true q8
         have p10 : 0 ≤ (0 : Int) := (by omega)
         have q10 : 0 < a0.size := (by have : (0 : Int) < (a0.size : Int) := od_; omega)
         have hx10 : ∀ h : 0 < a0.size, ((a0[0]'h).toNat : Int) = bt a0 0 := bt_at a0 0
         clear p10
         have qi10 : (0 < (a0.size : Int)) = True := eq_true (od_)
         replace q10 := eq_true q10
         have p14 : 0 ≤ (1 : Int) := (by omega)
         have q14 : 1 < a0.size := (by have : (1 : Int) < (a0.size : Int) := od_; omega)
         have hx14 : ∀ h : 1 < a0.size, ((a0[1]'h).toNat : Int) = bt a0 1 := bt_at a0 1
         clear p14
         have qi14 : (1 < (a0.size : Int)) = True := eq_true (od_)
         replace q14 := eq_true q14
         go_enter Tryz.func13, Tryz.ntmps13
         go_wp2_with (first | (go_at_call 24; (with_reducible refine (strings_IndexByte.calls (⟨#[48, 49, 50, 51, 52, 53, 54, 55, 56, 57, 97, 98, 99, 100, 101, 102]⟩ : ByteArray) (bt a0 1) t105 _ A15.out).mono ?_); rintro e w' ⟨rfl, ⟨nd, rfl⟩⟩; (try first | exact ⟨rfl, _, World.drewN_drewN _ _ _⟩ | exact ⟨rfl, _, Eq.trans (World.drewN_drewN _ _ _) (congrArg (World.drewN _) (Nat.add_assoc _ _ _))⟩); have p17 : 0 ≤ (2 : Int) := (by omega); have q17 : 2 < a0.size := (by have : (2 : Int) < (a0.size : Int) := od_; omega); have hx17 : ∀ h : 2 < a0.size, ((a0[2]'h).toNat : Int) = bt a0 2 := bt_at a0 2; clear p17; have qi17 : (2 < (a0.size : Int)) = True := eq_true (od_); replace q17 := eq_true q17) | (go_at_call 24; (with_reducible refine (strings_IndexByte.calls (⟨#[48, 49, 50, 51, 52, 53, 54, 55, 56, 57, 97, 98, 99, 100, 101, 102]⟩ : ByteArray) (bt a0 2) t106 _ A18.out).mono ?_); rintro e w' ⟨rfl, ⟨nd, rfl⟩⟩; (try first | exact ⟨rfl, _, World.drewN_drewN _ _ _⟩ | exact ⟨rfl, _, Eq.trans (World.drewN_drewN _ _ _) (congrArg (World.drewN _) (Nat.add_assoc _ _ _))⟩)))
         repeat (go_quiet (first | (go_at_call 24; (with_reducible refine (strings_IndexByte.calls (⟨#[48, 49, 50, 51, 52, 53, 54, 55, 56, 57, 97, 98, 99, 100, 101, 102]⟩ : ByteArray) (bt a0 1) t105 _ A15.out).mono ?_); rintro e w' ⟨rfl, ⟨nd, rfl⟩⟩; (try first | exact ⟨rfl, _, World.drewN_drewN _ _ _⟩ | exact ⟨rfl, _, Eq.trans (World.drewN_drewN _ _ _) (congrArg (World.drewN _) (Nat.add_assoc _ _ _))⟩); have p17 : 0 ≤ (2 : Int) := (by omega); have q17 : 2 < a0.size := (by have : (2 : Int) < (a0.size : Int) := od_; omega); have hx17 : ∀ h : 2 < a0.size, ((a0[2]'h).toNat : Int) = bt a0 2 := bt_at a0 2; clear p17; have qi17 : (2 < (a0.size : Int)) = True := eq_true (od_); replace q17 := eq_true q17) | (go_at_call 24; (with_reducible refine (strings_IndexByte.calls (⟨#[48, 49, 50, 51, 52, 53, 54, 55, 56, 57, 97, 98, 99, 100, 101, 102]⟩ : ByteArray) (bt a0 2) t106 _ A18.out).mono ?_); rintro e w' ⟨rfl, ⟨nd, rfl⟩⟩; (try first | exact ⟨rfl, _, World.drewN_drewN _ _ _⟩ | exact ⟨rfl, _, Eq.trans (World.drewN_drewN _ _ _) (congrArg (World.drewN _) (Nat.add_assoc _ _ _))⟩))); try go_wp2_with (first | (go_at_call 24; (with_reducible refine (strings_IndexByte.calls (⟨#[48, 49, 50, 51, 52, 53, 54, 55, 56, 57, 97, 98, 99, 100, 101, 102]⟩ : ByteArray) (bt a0 1) t105 _ A15.out).mono ?_); rintro e w' ⟨rfl, ⟨nd, rfl⟩⟩; (try first | exact ⟨rfl, _, World.drewN_drewN _ _ _⟩ | exact ⟨rfl, _, Eq.trans (World.drewN_drewN _ _ _) (congrArg (World.drewN _) (Nat.add_assoc _ _ _))⟩); have p17 : 0 ≤ (2 : Int) := (by omega); have q17 : 2 < a0.size := (by have : (2 : Int) < (a0.size : Int) := od_; omega); have hx17 : ∀ h : 2 < a0.size, ((a0[2]'h).toNat : Int) = bt a0 2 := bt_at a0 2; clear p17; have qi17 : (2 < (a0.size : Int)) = True := eq_true (od_); replace q17 := eq_true q17) | (go_at_call 24; (with_reducible refine (strings_IndexByte.calls (⟨#[48, 49, 50, 51, 52, 53, 54, 55, 56, 57, 97, 98, 99, 100, 101, 102]⟩ : ByteArray) (bt a0 2) t106 _ A18.out).mono ?_); rintro e w' ⟨rfl, ⟨nd, rfl⟩⟩; (try first | exact ⟨rfl, _, World.drewN_drewN _ _ _⟩ | exact ⟨rfl, _, Eq.trans (World.drewN_drewN _ _ _) (congrArg (World.drewN _) (Nat.add_assoc _ _ _))⟩))))
         go_ret2
         exact ⟨by first | rfl | (simp; done) | (simp [*]; done) | (simp; exact (by intro l_; cases l_ <;> rfl : ∀ l_ : List UInt8, l_.isEmpty = !(l_ != [])) _), drw⟩
        ·rw [if_neg c20] at H
         have c20b0 := decide_eq_false c20
         clear c20
         simp only [Option.some.injEq, Prod.mk.injEq] at H
         obtain ⟨rfl, rfl⟩ := H
         have p4 : 0 ≤ (0 : Int) := (by omega)
         have q4 : 0 < a0.size := (by have : (0 : Int) < (a0.size : Int) := od_; omega)
         have hx4 : ∀ h : 0 < a0.size, ((a0[0]'h).toNat : Int) = bt a0 0 := bt_at a0 0
         clear p4
         have qi4 : (0 < (a0.size : Int)) = True := eq_true (od_)
         replace q4 := eq_true q4
         have p6 : 0 ≤ (0 : Int) := (by omega)
         have q6 : 0 < a0.size := (by have : (0 : Int) < (a0.size : Int) := od_; omega)
         have hx6 : ∀ h : 0 < a0.size, ((a0[0]'h).toNat : Int) = bt a0 0 := bt_at a0 0
         clear p6
         have qi6 : (0 < (a0.size : Int)) = True := eq_true (od_)
         replace q6 := eq_true q6
         have p8 : 0 ≤ (0 : Int) := (by omega)
         have q8 : 0 < a0.size := (by have : (0 : Int) < (a0.size : Int) := od_; omega)
         have hx8 : ∀ h : 0 < a0.size, ((a0[0]'h).toNat : Int) = bt a0 0 := bt_at a0 0
         clear p8
         have qi8 : (0 < (a0.size : Int)) = True := eq_true (od_)
         replace q8 := eq_true q8
         have p10 : 0 ≤ (0 : Int) := (by omega)
         have q10 : 0 < a0.size := (by have : (0 : Int) < (a0.size : Int) := od_; omega)
         have hx10 : ∀ h : 0 < a0.size, ((a0[0]'h).toNat : Int) = bt a0 0 := bt_at a0 0
         clear p10
         have qi10 : (0 < (a0.size : Int)) = True := eq_true (od_)
         replace q10 := eq_true q10
         have p14 : 0 ≤ (1 : Int) := (by omega)
         have q14 : 1 < a0.size := (by have : (1 : Int) < (a0.size : Int) := od_; omega)
         have hx14 : ∀ h : 1 < a0.size, ((a0[1]'h).toNat : Int) = bt a0 1 := bt_at a0 1
         clear p14
         have qi14 : (1 < (a0.size : Int)) = True := eq_true (od_)
         replace q14 := eq_true q14
         go_enter Tryz.func13, Tryz.ntmps13
         go_wp2_with (first | (go_at_call 24; (with_reducible refine (strings_IndexByte.calls (⟨#[48, 49, 50, 51, 52, 53, 54, 55, 56, 57, 97, 98, 99, 100, 101, 102]⟩ : ByteArray) (bt a0 1) t105 _ A15.out).mono ?_); rintro e w' ⟨rfl, ⟨nd, rfl⟩⟩; (try first | exact ⟨rfl, _, World.drewN_drewN _ _ _⟩ | exact ⟨rfl, _, Eq.trans (World.drewN_drewN _ _ _) (congrArg (World.drewN _) (Nat.add_assoc _ _ _))⟩); have p17 : 0 ≤ (2 : Int) := (by omega); have q17 : 2 < a0.size := (by have : (2 : Int) < (a0.size : Int) := od_; omega); have hx17 : ∀ h : 2 < a0.size, ((a0[2]'h).toNat : Int) = bt a0 2 := bt_at a0 2; clear p17; have qi17 : (2 < (a0.size : Int)) = True := eq_true (od_); replace q17 := eq_true q17) | (go_at_call 24; (with_reducible refine (strings_IndexByte.calls (⟨#[48, 49, 50, 51, 52, 53, 54, 55, 56, 57, 97, 98, 99, 100, 101, 102]⟩ : ByteArray) (bt a0 2) t106 _ A18.out).mono ?_); rintro e w' ⟨rfl, ⟨nd, rfl⟩⟩; (try first | exact ⟨rfl, _, World.drewN_drewN _ _ _⟩ | exact ⟨rfl, _, Eq.trans (World.drewN_drewN _ _ _) (congrArg (World.drewN _) (Nat.add_assoc _ _ _))⟩)))
         repeat (go_quiet (first | (go_at_call 24; (with_reducible refine (strings_IndexByte.calls (⟨#[48, 49, 50, 51, 52, 53, 54, 55, 56, 57, 97, 98, 99, 100, 101, 102]⟩ : ByteArray) (bt a0 1) t105 _ A15.out).mono ?_); rintro e w' ⟨rfl, ⟨nd, rfl⟩⟩; (try first | exact ⟨rfl, _, World.drewN_drewN _ _ _⟩ | exact ⟨rfl, _, Eq.trans (World.drewN_drewN _ _ _) (congrArg (World.drewN _) (Nat.add_assoc _ _ _))⟩); have p17 : 0 ≤ (2 : Int) := (by omega); have q17 : 2 < a0.size := (by have : (2 : Int) < (a0.size : Int) := od_; omega); have hx17 : ∀ h : 2 < a0.size, ((a0[2]'h).toNat : Int) = bt a0 2 := bt_at a0 2; clear p17; have qi17 : (2 < (a0.size : Int)) = True := eq_true (od_); replace q17 := eq_true q17) | (go_at_call 24; (with_reducible refine (strings_IndexByte.calls (⟨#[48, 49, 50, 51, 52, 53, 54, 55, 56, 57, 97, 98, 99, 100, 101, 102]⟩ : ByteArray) (bt a0 2) t106 _ A18.out).mono ?_); rintro e w' ⟨rfl, ⟨nd, rfl⟩⟩; (try first | exact ⟨rfl, _, World.drewN_drewN _ _ _⟩ | exact ⟨rfl, _, Eq.trans (World.drewN_drewN _ _ _) (congrArg (World.drewN _) (Nat.add_assoc _ _ _))⟩))); try go_wp2_with (first | (go_at_call 24; (with_reducible refine (strings_IndexByte.calls (⟨#[48, 49, 50, 51, 52, 53, 54, 55, 56, 57, 97, 98, 99, 100, 101, 102]⟩ : ByteArray) (bt a0 1) t105 _ A15.out).mono ?_); rintro e w' ⟨rfl, ⟨nd, rfl⟩⟩; (try first | exact ⟨rfl, _, World.drewN_drewN _ _ _⟩ | exact ⟨rfl, _, Eq.trans (World.drewN_drewN _ _ _) (congrArg (World.drewN _) (Nat.add_assoc _ _ _))⟩); have p17 : 0 ≤ (2 : Int) := (by omega); have q17 : 2 < a0.size := (by have : (2 : Int) < (a0.size : Int) := od_; omega); have hx17 : ∀ h : 2 < a0.size, ((a0[2]'h).toNat : Int) = bt a0 2 := bt_at a0 2; clear p17; have qi17 : (2 < (a0.size : Int)) = True := eq_true (od_); replace q17 := eq_true q17) | (go_at_call 24; (with_reducible refine (strings_IndexByte.calls (⟨#[48, 49, 50, 51, 52, 53, 54, 55, 56, 57, 97, 98, 99, 100, 101, 102]⟩ : ByteArray) (bt a0 2) t106 _ A18.out).mono ?_); rintro e w' ⟨rfl, ⟨nd, rfl⟩⟩; (try first | exact ⟨rfl, _, World.drewN_drewN _ _ _⟩ | exact ⟨rfl, _, Eq.trans (World.drewN_drewN _ _ _) (congrArg (World.drewN _) (Nat.add_assoc _ _ _))⟩))))
         go_ret2
         exact ⟨by first | rfl | (simp; done) | (simp [*]; done) | (simp; exact (by intro l_; cases l_ <;> rfl : ∀ l_ : List UInt8, l_.isEmpty = !(l_ != [])) _), drw⟩
     ·rw [if_neg c11] at H
      have c11b0 := beq_eq_false_iff_ne.mpr c11
      have c11b1 := bne_iff_ne.mpr c11
      simp only [Option.some.injEq, Prod.mk.injEq] at H
      obtain ⟨rfl, rfl⟩ := H
      have p4 : 0 ≤ (0 : Int) := (by omega)
      have q4 : 0 < a0.size := (by have : (0 : Int) < (a0.size : Int) := od_; omega)
      have hx4 : ∀ h : 0 < a0.size, ((a0[0]'h).toNat : Int) = bt a0 0 := bt_at a0 0
      clear p4
      have qi4 : (0 < (a0.size : Int)) = True := eq_true (od_)
      replace q4 := eq_true q4
      have p6 : 0 ≤ (0 : Int) := (by omega)
      have q6 : 0 < a0.size := (by have : (0 : Int) < (a0.size : Int) := od_; omega)
      have hx6 : ∀ h : 0 < a0.size, ((a0[0]'h).toNat : Int) = bt a0 0 := bt_at a0 0
      clear p6
      have qi6 : (0 < (a0.size : Int)) = True := eq_true (od_)
      replace q6 := eq_true q6
      have p8 : 0 ≤ (0 : Int) := (by omega)
      have q8 : 0 < a0.size := (by have : (0 : Int) < (a0.size : Int) := od_; omega)
      have hx8 : ∀ h : 0 < a0.size, ((a0[0]'h).toNat : Int) = bt a0 0 := bt_at a0 0
      clear p8
      have qi8 : (0 < (a0.size : Int)) = True := eq_true (od_)
      replace q8 := eq_true q8
      have p10 : 0 ≤ (0 : Int) := (by omega)
      have q10 : 0 < a0.size := (by have : (0 : Int) < (a0.size : Int) := od_; omega)
      have hx10 : ∀ h : 0 < a0.size, ((a0[0]'h).toNat : Int) = bt a0 0 := bt_at a0 0
      clear p10
      have qi10 : (0 < (a0.size : Int)) = True := eq_true (od_)
      replace q10 := eq_true q10
      go_enter Tryz.func13, Tryz.ntmps13
      go_wp2
      repeat (go_quiet (fail); try go_wp2)
      go_ret2
      exact ⟨by first | rfl | (simp; done) | (simp [*]; done) | (simp; exact (by intro l_; cases l_ <;> rfl : ∀ l_ : List UInt8, l_.isEmpty = !(l_ != [])) _), drw⟩

end Go.Proofs.YtcgfaagadejpmaaGreatDoor.Q
