-- Texts of this session put together by a program of it (wip/pack.py).
import Derived.Test.YtpniccllpfonfaaGreatDoorKG7
import Derived.Test.YtpniccllpfonfaaGreatDoorKG6
namespace Go.Proofs.YtpniccllpfonfaaGreatDoor.St
open Go Go.RowKit Go.Proofs.YtpniccllpfonfaaGreatDoorW.PrintWords Go.Proofs.YtpniccllpfonfaaGreatDoor.Wd Go.Proofs.YtpniccllpfonfaaGreatDoor.Q
section
variable {W : World}
set_option maxRecDepth 100000 in
set_option maxHeartbeats 4000000 in
theorem storeOrder_walk (hA : Amb W) (a b : Int) (_ha : -9223372036854775808 ≤ a ∧ a ≤ 9223372036854775807) (_hb : -9223372036854775808 ≤ b ∧ b ≤ 9223372036854775807) : Calls Tryz.prog 8 #[.int .i64 a, .int .i64 b] W fun e w' => e = .returned (.bool true) ∧ Below W.heap.size W w' := by
  by_cases hr : 0 ≤ a ∧ 0 ≤ b ∧ a ≤ 1099511627776 ∧ b ≤ 1099511627776
  · obtain ⟨h1, h2, h3, h4⟩ := hr
    obtain ⟨n, rfl⟩ := Int.eq_ofNat_of_zero_le h1
    obtain ⟨m, rfl⟩ := Int.eq_ofNat_of_zero_le h2
    have ka := fun W => key_any (w := W) n (by omega)
    have kb := fun W => key_any (w := W) m (by omega)
    have hnum : ∀ W, Calls Tryz.prog 34 #[.string (keyOf n)] W fun e w' => e = .returned (.tuple #[.int .i64 (n : Int), .bool true]) ∧ Below W.heap.size W w' := fun W => by
      refine (number_any (w := W) (keyOf n) (by rw [keyOf_size]; decide)).mono ?_
      rintro e w' ⟨⟨x, ok, h, rfl⟩, hb⟩
      obtain ⟨rfl, rfl⟩ := number_key n (by omega) h
      exact ⟨rfl, hb⟩
    have hsz := keyOf_size n
    have hless : Op.bytesLess (keyOf n).toList (keyOf m).toList = decide ((n : Int) < (m : Int)) := by
      rw [bytesLess_eq]
      have := keyOf_lt n m (by omega) (by omega)
      by_cases h : n < m
      · rw [decide_eq_true (this.2 h), decide_eq_true (by omega)]
      · rw [decide_eq_false (fun h' => h (this.1 h')), decide_eq_false (by omega)]
    obtain ⟨kn, hkn⟩ : ∃ kn, kn = keyOf n := ⟨_, rfl⟩
    obtain ⟨km, hkm⟩ : ∃ km, km = keyOf m := ⟨_, rfl⟩
    rw [← hkn] at ka hnum hsz hless
    rw [← hkm] at kb hless
    clear hkn hkm
    have HB : Below W.heap.size W W := Below.refl _ _
    by_cases hlt : n < m
    · have l0 : Op.bytesLess kn.toList km.toList = true := by rw [hless]; exact decide_eq_true (by omega)
      have l1 : (n : Int) < (m : Int) := by omega
      clear hless
      go_enter Tryz.func8, Tryz.ntmps8
      go_wp2_with (first
        | (go_at_call 9; (with_reducible refine (works_ok hA).mono ?_); rintro e w1 ⟨rfl, hb⟩; replace HB := HB.trans (hb.mono HB.size))
        | (go_at_call 36; (with_reducible refine (ka _).mono ?_); rintro e w2 ⟨rfl, hb⟩; replace HB := HB.trans (hb.mono HB.size))
        | (go_at_call 36; (with_reducible refine (kb _).mono ?_); rintro e w3 ⟨rfl, hb⟩; replace HB := HB.trans (hb.mono HB.size))
        | (go_at_call 34; (with_reducible refine (hnum _).mono ?_); rintro e w4 ⟨rfl, hb⟩; replace HB := HB.trans (hb.mono HB.size)))
      go_ret
      exact ⟨rfl, HB⟩
    · have l0 : Op.bytesLess kn.toList km.toList = false := by rw [hless]; exact decide_eq_false (by omega)
      have l1 : ¬ (n : Int) < (m : Int) := by omega
      clear hless
      go_enter Tryz.func8, Tryz.ntmps8
      go_wp2_with (first
        | (go_at_call 9; (with_reducible refine (works_ok hA).mono ?_); rintro e w1 ⟨rfl, hb⟩; replace HB := HB.trans (hb.mono HB.size))
        | (go_at_call 36; (with_reducible refine (ka _).mono ?_); rintro e w2 ⟨rfl, hb⟩; replace HB := HB.trans (hb.mono HB.size))
        | (go_at_call 36; (with_reducible refine (kb _).mono ?_); rintro e w3 ⟨rfl, hb⟩; replace HB := HB.trans (hb.mono HB.size))
        | (go_at_call 34; (with_reducible refine (hnum _).mono ?_); rintro e w4 ⟨rfl, hb⟩; replace HB := HB.trans (hb.mono HB.size)))
      go_ret
      exact ⟨rfl, HB⟩
  · have HB : Below W.heap.size W W := Below.refl _ _
    by_cases h1 : a < 0
    · clear hr
      go_enter Tryz.func8, Tryz.ntmps8
      go_wp2_with (go_at_call 9; (with_reducible refine (works_ok hA).mono ?_); rintro e w1 ⟨rfl, hb⟩; replace HB := HB.trans (hb.mono HB.size))
      go_ret
      exact ⟨rfl, HB⟩
    · by_cases h2 : b < 0
      · clear hr
        go_enter Tryz.func8, Tryz.ntmps8
        go_wp2_with (go_at_call 9; (with_reducible refine (works_ok hA).mono ?_); rintro e w1 ⟨rfl, hb⟩; replace HB := HB.trans (hb.mono HB.size))
        go_ret
        exact ⟨rfl, HB⟩
      · by_cases h3 : 1099511627776 < a
        · clear hr
          go_enter Tryz.func8, Tryz.ntmps8
          go_wp2_with (go_at_call 9; (with_reducible refine (works_ok hA).mono ?_); rintro e w1 ⟨rfl, hb⟩; replace HB := HB.trans (hb.mono HB.size))
          go_ret
          exact ⟨rfl, HB⟩
        · have h4 : 1099511627776 < b := by omega
          clear hr
          go_enter Tryz.func8, Tryz.ntmps8
          go_wp2_with (go_at_call 9; (with_reducible refine (works_ok hA).mono ?_); rintro e w1 ⟨rfl, hb⟩; replace HB := HB.trans (hb.mono HB.size))
          go_ret
          exact ⟨rfl, HB⟩
end
end Go.Proofs.YtpniccllpfonfaaGreatDoor.St
