import Derived.Test.YtcpmoolpbeeedaaGreatDoorUA
namespace Go.Proofs.YtcpmoolpbeeedaaGreatDoor.Q
open Go.RowKit Go.Proofs.YtcpmoolpbeeedaaGreatDoorW.PrintWords Go.Proofs.YtcpmoolpbeeedaaGreatDoorW.PrintLast Go.Proofs.YtcpmoolpbeeedaaGreatDoorW.PrintMore
theorem splitC_len (c : UInt8) : ∀ (l cur : List UInt8), (Sp.splitC c cur l).length ≤ l.length + 1
  | [], cur => by simp [Sp.splitC]
  | y :: l, cur => by
    rw [Sp.splitC]
    have h1 := splitC_len c l []
    have h2 := splitC_len c l (cur ++ [y])
    split
    · simp; omega
    · simp; omega
abbrev nn (l : List UInt8) : List Int := l.map fun b => (b.toNat : Int)
theorem nn_snoc (l : List UInt8) (c : UInt8) : nn l ++ [(c.toNat : Int)] = nn (l ++ [c]) := by simp [nn]
theorem str_nn (l : List UInt8) : strOfNums (nn l) = mk l := by
  unfold strOfNums nn mk
  congr 2
  rw [List.map_map]
  conv => rhs; rw [← List.map_id l]
  apply List.map_congr_left
  intro b _
  simp
theorem nn_len (l : List UInt8) : (nn l).length = l.length := by simp [nn]
def plainB (c : UInt8) : Bool := decide (32 ≤ c.toNat) && decide (c.toNat ≤ 126)
end Go.Proofs.YtcpmoolpbeeedaaGreatDoor.Q
