/- The sum of any bytes from any sum on, its bytes, and the number of any bytes are as the reference has them, bit by bit: for every sum and every text (beyond 1000 bytes the law asks the chapter's example alone). -/
import Derived.Test.YtmkmkknnlckibaaQ2
import Derived.Test.YtmkmkknnlckibaaCrcB
import Derived.OpenShut
namespace Go.Proofs.Ytmkmkknnlckibaa.Pure
open Go.RowKit Go.Proofs.Ytmkmkknnlckibaa.Q Go.Proofs.YtmkmkknnlckibaaW.PrintWords Go.Proofs.YtmkmkknnlckibaaW.PrintLast

theorem sums_j0 (k a : Nat) (s : ByteArray) (hs : s.size ≤ 1000) (hk : 20000 ≤ k) (ha : a < 4294967296) : bulletinlaw02_CrcSums.j0 (k + 1) (a : Int) s true = some true := by
  simp only [bulletinlaw02_CrcSums.j0]
  rw [add_f k a s (by omega) (by omega) ha]
  simp only [Option.bind_some]
  rw [ref_f k a s (by omega) (by omega) ha]
  simp only [Option.bind_some]
  rw [if_pos trivial, sum_f k s (by omega) (by omega)]
  simp only [Option.bind_some]
  have h0 := ref_f k 0 s (by omega) (by omega) (by decide)
  rw [show ((0 : Nat) : Int) = 0 from rfl] at h0
  rw [h0]
  simp only [Option.bind_some]
  rw [if_pos trivial, Bytes_f]
  simp only [Option.bind_some]
  rw [refBytes_f a ha]
  simp only [Option.bind_some]
  rw [if_pos trivial, if_pos trivial, works_f k (by omega)]
  rfl

theorem CrcSums : bulletinlaw02_CrcSums.Pure := by
  intro a0 s hw hs
  have hb := bounds_u32 hw
  obtain ⟨a, rfl⟩ := Int.eq_ofNat_of_zero_le hb.1
  have ha : a < 4294967296 := by omega
  refine ⟨20001, ?_⟩
  unfold bulletinlaw02_CrcSums.f
  by_cases h : (s.size : Int) > 1000
  · rw [if_pos h, works_f _ (by decide)]
    rfl
  · rw [if_neg h]
    by_cases h4 : s.size = 4
    · rw [Number_f _ s h4 (by decide)]
      simp only [Option.bind_some]
      rw [if_pos (by omega), if_pos trivial, refBytes_f _ (num_lt s)]
      simp only [Option.bind_some]
      rw [byt_num s h4, if_pos rfl]
      exact sums_j0 20000 a s (by omega) (by decide) ha
    · rw [Number_no _ s h4]
      simp only [Option.bind_some]
      rw [if_neg (by omega), if_pos trivial]
      exact sums_j0 20000 a s (by omega) (by decide) ha

end Go.Proofs.Ytmkmkknnlckibaa.Pure
