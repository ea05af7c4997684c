import Derived.Test.YtcpmoolpbeeedaaGreatDoorAD
import Derived.Test.YtcpmoolpbeeedaaGreatDoorQ10
import Derived.Test.YtcpmoolpbeeedaaGreatDoorQ26
import Derived.Test.YtcpmoolpbeeedaaGreatDoorQ5
import Derived.Test.YtcpmoolpbeeedaaGreatDoorQ9
import Derived.Test.YtcpmoolpbeeedaaGreatDoorU10
import Derived.Test.YtcpmoolpbeeedaaGreatDoorU8
import Derived.Test.YtcpmoolpbeeedaaGreatDoorUA
import Derived.Test.YtcpmoolpbeeedaaGreatDoorUN
namespace Go.Proofs.YtcpmoolpbeeedaaGreatDoor.Q
open Go.RowKit Go.Proofs.YtcpmoolpbeeedaaGreatDoorW.PrintWords Go.Proofs.YtcpmoolpbeeedaaGreatDoorW.PrintLast Go.Proofs.YtcpmoolpbeeedaaGreatDoorW.PrintMore
def tailV (c n t : Int) : Int := if c = 0 then (if n > 64 then 2 else if t > 254 then 2 else 0) else 2
theorem tail_is (c n t : Int) : (if c = 0 then (if n > 64 then some (2 : Int) else if t > 254 then some 2 else some 0) else some 2) = some (tailV c n t) := by
  unfold tailV
  repeat' split
  all_goals rfl
theorem why_l (l : List UInt8) (hl : l.length < 100000) (b t : ByteArray) (c : Int) (K : Nat) (hK : 2 * l.length + 100 < K) (ht : addr_Addr_Text.f K (mk l) b = some t) : ∀ (n i k : Nat), i + n = l.length → K + n < k →
    bulletinref13_Why.l0 k c (i : Int) (mk l) b = some (if (l.drop i).all plainB = true then tailV c l.length t.size else 130)
  | 0, i, k, hi, hk => by
    obtain ⟨k, rfl⟩ : ∃ j, k = j + 1 := ⟨k - 1, by omega⟩
    unfold bulletinref13_Why.l0
    rw [size_mk, if_neg (by omega), List.drop_of_length_le (by omega), addrText_eq (mk l) b (by rw [size_mk]; omega) k (by rw [size_mk]; omega), up_of (addr_Addr_Text.mono _ _) ht k (by omega), Option.bind_some, tail_is]
    rfl
  | n + 1, i, k, hi, hk => by
    obtain ⟨k, rfl⟩ : ∃ j, k = j + 1 := ⟨k - 1, by omega⟩
    have hin : i < l.length := by omega
    have w : wrap64 ((i : Int) + 1) = ((i + 1 : Nat) : Int) := by unfold wrap64; omega
    have ih := why_l l hl b t c K hK ht n (i + 1) k (by omega) (by omega)
    unfold bulletinref13_Why.l0
    rw [size_mk, if_pos (by omega), if_pos (by omega), bt_mk l i hin, w, ih, List.drop_eq_getElem_cons hin, List.all_cons]
    by_cases h1 : ((l[i]).toNat : Int) < 32
    · rw [if_pos h1, show plainB l[i] = false by unfold plainB; rw [decide_eq_false (by omega), Bool.false_and], Bool.false_and, if_neg (by decide)]
    · rw [if_neg h1]
      by_cases h2 : ((l[i]).toNat : Int) > 126
      · rw [if_pos h2, show plainB l[i] = false by unfold plainB; rw [decide_eq_false (show ¬ (l[i].toNat ≤ 126) by omega), Bool.and_false], Bool.false_and, if_neg (by decide)]
      · rw [if_neg h2, show plainB l[i] = true by unfold plainB; rw [decide_eq_true (by omega), decide_eq_true (by omega)]; rfl, Bool.true_and]
theorem why_eq (a b : ByteArray) (ha : a.size < 90000) (hb : b.size < 90000) (k : Nat) (hk : 2000000 ≤ k) : bulletinref13_Why.f k a b = addr_why.f k a b := by
  obtain ⟨l, rfl⟩ : ∃ l, a = mk l := ⟨a.data.toList, (mk_data _).symm⟩
  rw [size_mk] at ha
  obtain ⟨r, c, h1, h2⟩ := domain_eq b (by omega) k (by omega)
  obtain ⟨t, ht, _⟩ := Ad.addrText_t (mk l) b (by rw [size_mk]; omega) (by omega) 300000 (by rw [size_mk]; omega)
  unfold bulletinref13_Why.f addr_why.f
  rw [h1, h2, Option.bind_some, Option.bind_some]
  obtain ⟨k, rfl⟩ : ∃ j, k = j + 1 := ⟨k - 1, by omega⟩
  by_cases hc : c = 130
  · rw [if_pos hc, if_pos hc, bulletinref13_Why.j0, addr_why.j0, if_pos rfl, if_pos rfl]
  · rw [if_neg hc, if_neg hc, toList_mk]
    by_cases h0 : l = []
    · rw [if_pos h0, h0, bulletinref13_Why.j0, addr_why.j0, if_pos (by rfl), if_pos rfl]
    · rw [if_neg h0, bulletinref13_Why.j0, if_neg (by rw [beq_iff_eq]; exact h0)]
      have e := why_l l (by omega) b t c 300000 (by omega) ht l.length 0 k (Nat.zero_add _) (by omega)
      rw [show ((0 : Nat) : Int) = 0 from rfl, List.drop_zero] at e
      rw [e]
      have g : glyph_Plain.f (mk l) = some (l.all plainB) := by
        unfold glyph_Plain.f
        rw [if_pos (by rw [size_mk]; omega)]
        unfold glyph_Plain.g
        rw [data_mk]
        rfl
      rw [g, Option.bind_some, addr_why.j0, size_mk, up_of (addr_Addr_Text.mono _ _) ht k (by omega), Option.bind_some]
      by_cases hp : l.all plainB = true
      · rw [if_pos hp, hp, if_neg (show ¬ ((!true) = true) by decide), tail_is]
      · rw [if_neg hp, (Bool.not_eq_true _).mp hp, if_pos (show (!false) = true from rfl)]
theorem addrRight_eq (a b : ByteArray) (ha : a.size < 90000) (hb : b.size < 90000) (k : Nat) (hk : 2000000 ≤ k) : bulletinref13_Right.f k a b = addr_Addr_Right.f k a b := by
  unfold bulletinref13_Right.f addr_Addr_Right.f
  rw [why_eq a b ha hb k hk, Ad.gfold b (by omega), refFold_eq b (by omega) k (by omega), Option.bind_some, Option.bind_some]
  congr 1
  funext c
  rw [Bool.beq_comm]
end Go.Proofs.YtcpmoolpbeeedaaGreatDoor.Q
