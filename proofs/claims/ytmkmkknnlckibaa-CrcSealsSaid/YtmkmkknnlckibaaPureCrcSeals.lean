/- The seal of any bytes, and whether any bytes are sealed, are as the reference has them: for every two texts (beyond 1000 bytes the law asks the chapter's example alone). -/
import Derived.Test.YtmkmkknnlckibaaQ3
import Derived.Test.YtmkmkknnlckibaaCrcB
namespace Go.Proofs.Ytmkmkknnlckibaa.Pure
open Go.RowKit Go.Proofs.Ytmkmkknnlckibaa.Q Go.Proofs.YtmkmkknnlckibaaW.PrintWords Go.Proofs.YtmkmkknnlckibaaW.PrintLast

theorem seals_true (k : Nat) (s t : ByteArray) (hk : 100 ≤ k) : bulletinlaw02_CrcSeals.j0 (k + 1) s t true = some true := by
  simp only [bulletinlaw02_CrcSeals.j0]
  rw [if_pos trivial, works_f k hk]
  rfl
theorem seals_j1 (k : Nat) (s t : ByteArray) (b : Bool) (hs : s.size ≤ 1000) (hk : 20000 ≤ k) (hf : crc_Fits.f k t = some b) : bulletinlaw02_CrcSeals.j1 (k + 1) s t b = some true := by
  have h0 := ref_f k 0 s (by omega) (by omega) (by decide)
  rw [show ((0 : Nat) : Int) = 0 from rfl] at h0
  simp only [bulletinlaw02_CrcSeals.j1]
  rw [Seal_f k s (by omega) (by omega)]
  simp only [Option.bind_some]
  rw [h0]
  simp only [Option.bind_some]
  rw [refBytes_f _ (addN_lt 0 s (by decide))]
  simp only [Option.bind_some]
  rw [if_pos (by rw [byt_size]; omega), show s ++ byt (addN 0 s) = seal4 s from rfl, if_pos rfl, hf]
  simp only [Option.bind_some]
  rw [if_pos (by simp), works_f k (by omega)]
  rfl
theorem seals_false (k : Nat) (s t : ByteArray) (hs : s.size ≤ 1000) (ht : t.size ≤ 1000) (hk : 20000 ≤ k) : bulletinlaw02_CrcSeals.j0 (k + 2) s t false = some true := by
  simp only [bulletinlaw02_CrcSeals.j0]
  rw [if_neg (by decide)]
  by_cases h : (t.size : Int) ≥ 4
  · have hz := extract_size t (t.size - 4) (by omega)
    have h0 := ref_f (k + 1) 0 (t.extract 0 (t.size - 4)) (by omega) (by omega) (by decide)
    rw [show ((0 : Nat) : Int) = 0 from rfl] at h0
    rw [if_pos h, wrap_small (by omega) (by omega), if_pos (by omega), if_pos (by omega), Int.toNat_natCast, h0]
    simp only [Option.bind_some]
    rw [refBytes_f _ (addN_lt 0 _ (by decide))]
    simp only [Option.bind_some]
    refine seals_j1 k s t _ hs hk ?_
    rw [Fits_f k t (by omega) (by omega) (by omega)]
    congr 1
    rw [tl, tl, tl, tl, seal4, data_append]
    have hd := split_at t (t.size - 4)
    rw [Bool.eq_iff_iff, beq_iff_eq, beq_iff_eq]
    constructor
    · intro he
      rw [hd] at he
      exact List.append_cancel_left he
    · intro he
      rw [← he]
      exact hd
  · rw [if_neg h]
    exact seals_j1 k s t _ hs hk (Fits_no k t (by omega))

theorem CrcSeals : bulletinlaw02_CrcSeals.Pure := by
  intro s t hs ht
  refine ⟨20002, ?_⟩
  unfold bulletinlaw02_CrcSeals.f
  by_cases h : (s.size : Int) > 1000
  · rw [if_pos h]
    exact seals_true 20001 s t (by decide)
  · rw [if_neg h]
    by_cases h2 : (t.size : Int) > 1000
    · rw [decide_eq_true h2]
      exact seals_true 20001 s t (by decide)
    · rw [decide_eq_false h2]
      exact seals_false 20000 s t (by omega) (by omega) (by decide)

end Go.Proofs.Ytmkmkknnlckibaa.Pure
