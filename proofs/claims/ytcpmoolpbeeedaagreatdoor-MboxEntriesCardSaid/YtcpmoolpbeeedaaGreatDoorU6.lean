import Derived.Test.YtcpmoolpbeeedaaGreatDoorAD
import Derived.Test.YtcpmoolpbeeedaaGreatDoorDM1
import Derived.Test.YtcpmoolpbeeedaaGreatDoorDM6
import Derived.Test.YtcpmoolpbeeedaaGreatDoorQ10
import Derived.Test.YtcpmoolpbeeedaaGreatDoorQ7
import Derived.Test.YtcpmoolpbeeedaaGreatDoorQ8
import Derived.Test.YtcpmoolpbeeedaaGreatDoorUA
namespace Go.Proofs.YtcpmoolpbeeedaaGreatDoor.Q
open Go.RowKit Go.Proofs.YtcpmoolpbeeedaaGreatDoorW.PrintWords Go.Proofs.YtcpmoolpbeeedaaGreatDoorW.PrintLast Go.Proofs.YtcpmoolpbeeedaaGreatDoorW.PrintMore
theorem line_t (a : Int) (k : Nat) (hk : 70000 ≤ k) : ∃ r, date_Line.f k a = some r ∧ r.size ≤ 100 := by
  by_cases h : 0 ≤ a ∧ a ≤ 1099511627776
  · obtain ⟨y, m, d, i, e⟩ := of_is a h.1 h.2 k hk
    refine ⟨_, line_is a h.1 h.2 k y m d i e, ?_⟩
    have sm := i.small (by omega) (by omega)
    have l := Lg_le y m
    have i' := i
    unfold Is at i'
    have h1 := weekB_size ((a / 86400 + 4) % 7) (by omega) (by omega)
    have h2 := monthB_size m (by omega) (by omega)
    have h3 := num_size d (by omega) (by omega)
    have h4 := num_size y (by omega) (by omega)
    have h5 := clockB_size (a % 86400 / 3600) (a % 86400 / 60 % 60) (a % 60)
    have s1 : (⟨#[32]⟩ : ByteArray).size = 1 := rfl
    unfold lineB
    by_cases hd : d < 10
    · rw [if_pos hd]
      simp only [ByteArray.size_append, h1, h2, h5, s1]
      omega
    · rw [if_neg hd]
      simp only [ByteArray.size_append, h1, h2, h5, s1]
      omega
  · exact ⟨_, line_not a h k, by decide⟩
theorem day_t (a : Int) : ∃ r, date_Day.f a = some r := by
  unfold date_Day.f
  rw [moment_is]
  dsimp only [Option.bind_some]
  split <;> exact ⟨_, rfl⟩
theorem suffix_t (a b : ByteArray) (ha : a.size < 1000000000) (hb : b.size < 1000000000) : ∃ r, stringslite_HasSuffix.f a b = some r := by
  unfold stringslite_HasSuffix.f
  by_cases h : (a.size : Int) ≥ (b.size : Int)
  · have e : wrap64 ((a.size : Int) - (b.size : Int)) = ((a.size - b.size : Nat) : Int) := by unfold wrap64; omega
    rw [if_pos h, e, if_pos (by omega), if_pos (by omega)]
    exact ⟨_, rfl⟩
  · rw [if_neg h]
    exact ⟨_, rfl⟩
theorem hasSuffix_t (a b : ByteArray) (ha : a.size < 1000000000) (hb : b.size < 1000000000) : ∃ r, strings_HasSuffix.f a b = some r := by
  obtain ⟨r, hr⟩ := suffix_t a b ha hb
  unfold strings_HasSuffix.f
  rw [hr]
  exact ⟨_, rfl⟩
theorem right_t (a b t : ByteArray) (n : Int) (ha : a.size < 1000000) (hb : b.size < 1000000) (ht : t.size < 10000000) (k : Nat) (hk : 3000100 ≤ k) : ∃ r, mbox_Right.f k a b n t = some r := by
  unfold mbox_Right.f addr_Addr_Right.f
  obtain ⟨c, hc⟩ := Ad.why_t a b (by omega) (by omega) k (by omega)
  rw [hc]
  dsimp only [Option.bind_some]
  have hs : ∃ r, strings_HasSuffix.f t (⟨#[13, 10]⟩ : ByteArray) = some r := hasSuffix_t t _ (by omega) (by decide)
  obtain ⟨x, hx⟩ := hs
  obtain ⟨d, hd⟩ := day_t n
  rw [hd, hx]
  dsimp only [Option.bind_some]
  by_cases h0 : c = 0
  · rw [if_pos h0, Ad.gfold b (by omega)]
    dsimp only [Option.bind_some]
    split
    · split
      · split <;> exact ⟨_, rfl⟩
      · exact ⟨_, rfl⟩
    · exact ⟨_, rfl⟩
  · rw [if_neg h0]
    dsimp only [Option.bind_some]
    rw [if_neg (by decide)]
    exact ⟨_, rfl⟩
theorem entry_text (a b : ByteArray) (t : List UInt8) (n : Int) (ha : a.size < 1000000) (hb : b.size < 1000000) (ht : t.length < 1000000) (k : Nat) (hk : 3000100 ≤ k) : ∃ r, mbox_Entry.f k a b n (mk t) = some r := by
  unfold mbox_Entry.f
  obtain ⟨x, hx, xs⟩ := Ad.addrText_t a b (by omega) (by omega) k (by omega)
  obtain ⟨l, hl, ls⟩ := line_t n k (by omega)
  obtain ⟨s, hs⟩ := hasSuffix_t (mk t) (⟨#[13, 10]⟩ : ByteArray) (by rw [size_mk]; omega) (by decide)
  have hq := ended_len t.length t [] (Nat.le_refl _)
  simp only [List.length_nil, Nat.zero_add] at hq
  rw [hx, hl, quote_f t (by omega), hs]
  dsimp only [Option.bind_some]
  have eq := size_mk (ended ((lines [] t).map qu))
  rw [if_pos (by omega), if_pos (by omega), if_pos (by omega), if_pos (by omega), if_pos (by omega)]
  by_cases h1 : (mk t).toList = []
  · rw [if_pos h1, if_pos (by omega)]
    exact ⟨_, rfl⟩
  · rw [if_neg h1]
    by_cases h2 : s = true
    · rw [if_pos h2, if_pos (by omega)]
      exact ⟨_, rfl⟩
    · rw [if_neg h2, if_pos (by omega), if_pos (by omega)]
      exact ⟨_, rfl⟩
end Go.Proofs.YtcpmoolpbeeedaaGreatDoor.Q
