import Derived.Test.YtcpmoolpbeeedaaGreatDoorDM6
import Derived.Test.YtcpmoolpbeeedaaGreatDoorQ10
import Derived.Lib.Strings
namespace Go.Proofs.YtcpmoolpbeeedaaGreatDoor.Q
open Go.RowKit Go.Proofs.YtcpmoolpbeeedaaGreatDoorW.PrintWords
set_option linter.unusedVariables false
set_option linter.unusedSimpArgs false
theorem bb_one (p : List UInt8) (c : UInt8) (r : List UInt8) : (bb (p ++ c :: r)).extract p.length (p.length + 1) = bb [c] := by
  apply ByteArray.ext
  have := Lib.extract_data (bb (p ++ c :: r)) p.length (p.length + 1)
  rw [bb_list] at this
  apply Array.ext'
  rw [this, bb_list]
  simp
theorem fold_g (l : List UInt8) : glyph_Fold.g (bb l) = bb (l.map glyph_Fold.low) := by
  unfold glyph_Fold.g
  rw [bb_list]
  rfl
end Go.Proofs.YtcpmoolpbeeedaaGreatDoor.Q
