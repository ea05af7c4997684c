import Derived.Test.YtcpmoolpbeeedaaGreatDoorDM6
import Derived.Lib.IndexBytes
import Derived.Lib.IndexLaws
namespace Go.Proofs.YtcpmoolpbeeedaaGreatDoor.Q
open Go.RowKit Go.Proofs.YtcpmoolpbeeedaaGreatDoorW.PrintWords
set_option linter.unusedVariables false
set_option linter.unusedSimpArgs false
def splitC (c : UInt8) : List UInt8 → List UInt8 → List (List UInt8)
  | cur, [] => [cur]
  | cur, x :: l => if x = c then cur :: splitC c [] l else splitC c (cur ++ [x]) l
theorem bt_bb (p : List UInt8) (x : UInt8) (l : List UInt8) : bt (bb (p ++ x :: l)) (p.length : Int) = (x.toNat : Int) := by
  unfold bt
  have h : ((p.length : Int)).toNat < (bb (p ++ x :: l)).size := by rw [bb_size]; simp
  rw [dif_pos h]
  have : (bb (p ++ x :: l))[((p.length : Int)).toNat] = x := by
    simp [bb, ByteArray.getElem_eq_getElem_data]
  rw [this]
end Go.Proofs.YtcpmoolpbeeedaaGreatDoor.Q
