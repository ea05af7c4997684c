-- Texts of this session put together by a program of it (wip/pack.py).
import Derived.Test.YtpniccllpfonfaaGreatDoorKG7
import Derived.Test.YtpniccllpfonfaaGreatDoorKG8
namespace Go.Proofs.YtpniccllpfonfaaGreatDoor.St
open Go Go.RowKit Go.Proofs.YtpniccllpfonfaaGreatDoorW.PrintWords Go.Proofs.YtpniccllpfonfaaGreatDoor.Wd Go.Proofs.YtpniccllpfonfaaGreatDoor.Q
section
variable {W : World}
set_option maxRecDepth 100000 in
set_option maxHeartbeats 4000000 in
theorem storeKeys_walk (hA : Amb W) (n : Int) (s : ByteArray) (_hn : -9223372036854775808 ≤ n ∧ n ≤ 9223372036854775807) : Calls Tryz.prog 7 #[.int .i64 n, .string s] W fun e w' => e = .returned (.bool true) ∧ Below W.heap.size W w' := by
  clear _hn
  have HB : Below W.heap.size W W := Below.refl _ _
  by_cases h100 : s.size ≤ 100
  · obtain ⟨r, ok, hf, hN⟩ := number_f s (by omega)
    have hnum : ∀ W, Calls Tryz.prog 34 #[.string s] W fun e w' => e = .returned (.tuple #[.int .i64 r, .bool ok]) ∧ Below W.heap.size W w' := fun W => by
      refine (number_any (w := W) s (by omega)).mono ?_
      rintro e w' ⟨⟨x, o, h, rfl⟩, hb⟩
      obtain ⟨rfl, rfl⟩ := numis_one h hN
      exact ⟨rfl, hb⟩
    have href : ∀ W, Calls Tryz.prog 35 #[.string s] W fun e w' => e = .returned (.tuple #[.int .i64 r, .bool ok]) ∧ Below W.heap.size W w' := fun W => calls_below (bulletinref37_Number.calls _ s r ok W hf)
    have hk := fun W => keyI_any (w := W) n
    have hd := fun W => dkeyI_any (w := W) n
    obtain ⟨K, hK⟩ : ∃ K, K = keyI n := ⟨_, rfl⟩
    rw [← hK] at hk hd
    clear hK hN hf
    go_enter Tryz.func7, Tryz.ntmps7
    go_wp2_with (first
      | (go_at_call 34; (with_reducible refine (hnum _).mono ?_); rintro e w4 ⟨rfl, hb⟩; replace HB := HB.trans (hb.mono HB.size))
      | (go_at_call 35; (with_reducible refine (href _).mono ?_); rintro e w4 ⟨rfl, hb⟩; replace HB := HB.trans (hb.mono HB.size))
      | (go_at_call 36; (with_reducible refine (hk _).mono ?_); rintro e w2 ⟨rfl, hb⟩; replace HB := HB.trans (hb.mono HB.size))
      | (go_at_call 37; (with_reducible refine (hd _).mono ?_); rintro e w3 ⟨rfl, hb⟩; replace HB := HB.trans (hb.mono HB.size))
      | (go_at_call 9; (with_reducible refine (works_ok (hA.at HB)).mono ?_); rintro e w1 ⟨rfl, hb⟩; replace HB := HB.trans (hb.mono HB.size)))
    go_ret
    exact ⟨rfl, HB⟩
  · go_enter Tryz.func7, Tryz.ntmps7
    go_wp2_with (go_at_call 9; (with_reducible refine (works_ok hA).mono ?_); rintro e w1 ⟨rfl, hb⟩; replace HB := HB.trans (hb.mono HB.size))
    go_ret
    exact ⟨rfl, HB⟩
end
end Go.Proofs.YtpniccllpfonfaaGreatDoor.St
