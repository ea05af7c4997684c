/- The sum of two texts side by side is that of the second one added to the first one's; the number of a sum's bytes is the sum: for every two texts (beyond 1000 bytes the law asks the chapter's example alone). -/
import Derived.Test.YtmkmkknnlckibaaQ2
import Derived.Test.YtmkmkknnlckibaaCrcB
namespace Go.Proofs.Ytmkmkknnlckibaa.Pure
open Go.RowKit Go.Proofs.Ytmkmkknnlckibaa.Q Go.Proofs.YtmkmkknnlckibaaW.PrintWords Go.Proofs.YtmkmkknnlckibaaW.PrintLast

theorem parts_true (k : Nat) (s t : ByteArray) : bulletinlaw02_CrcParts.j0 (k + 1) s t true = some true := by
  simp only [bulletinlaw02_CrcParts.j0]
  rw [if_pos trivial]
theorem parts_false (k : Nat) (s t : ByteArray) (hs : s.size ≤ 1000) (ht : t.size ≤ 1000) (hk : 20000 ≤ k) : bulletinlaw02_CrcParts.j0 (k + 1) s t false = some true := by
  have h0 := addN_lt 0 s (by decide)
  have hz := size_append s t
  simp only [bulletinlaw02_CrcParts.j0]
  rw [if_neg (by decide), sum_f k s (by omega) (by omega)]
  simp only [Option.bind_some]
  rw [Bytes_f]
  simp only [Option.bind_some]
  rw [Number_f k _ (byt_size _) (by omega), num_byt _ h0]
  simp only [Option.bind_some]
  rw [add_f k _ t (by omega) (by omega) h0]
  simp only [Option.bind_some]
  rw [if_pos (by omega), sum_f k (s ++ t) (by omega) (by omega)]
  simp only [Option.bind_some]
  rw [add_add, if_pos trivial, add_f k _ _ (by decide) (Nat.le_trans (by decide) hk) h0, add_nil]
  simp only [Option.bind_some]
  rw [if_pos trivial, if_pos trivial]
  rfl

theorem CrcParts : bulletinlaw02_CrcParts.Pure := by
  intro s t hs ht
  refine ⟨20001, ?_⟩
  unfold bulletinlaw02_CrcParts.f
  rw [works_f _ (by decide)]
  simp only [Option.bind_some]
  rw [if_pos trivial]
  by_cases h : (s.size : Int) > 1000
  · rw [if_pos h]
    exact parts_true 20000 s t
  · rw [if_neg h]
    by_cases h2 : (t.size : Int) > 1000
    · rw [decide_eq_true h2]
      exact parts_true 20000 s t
    · rw [decide_eq_false h2]
      exact parts_false 20000 s t (by omega) (by omega) (by decide)

end Go.Proofs.Ytmkmkknnlckibaa.Pure
