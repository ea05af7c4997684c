-- Written by a program of this session (wip/myprint) out of the translation, for YtcpmoolpbeeedaaGreatDoor.
import Derived.Test.YtcpmoolpbeeedaaGreatDoorQ0
import Derived.Test.YtcpmoolpbeeedaaGreatDoorQ1
namespace Go.Proofs.YtcpmoolpbeeedaaGreatDoor.Q
open Go.RowKit Go.Proofs.YtcpmoolpbeeedaaGreatDoorW.PrintWords Go.Proofs.YtcpmoolpbeeedaaGreatDoorW.PrintLast Go.Proofs.YtcpmoolpbeeedaaGreatDoorW.PrintMore Go.Proofs.YtcpmoolpbeeedaaGreatDoorW.PrintSq
attribute [local go_sem] max2_int min2_int max_two min_two max_three min_three max_four min_four   -- for this text's walks alone
set_option linter.unusedVariables false
set_option linter.unusedSimpArgs false

theorem eqA34 (d : Nat) (w : World) (x0 y0 : ByteArray) (x1 y1 : ByteArray) (x2 y2 : Int) (x3 y3 : ByteArray) :
    (Op.equalIn (d + 3) 34 (.agg #[.string x0, .string x1, .int .i64 x2, .string x3]) (.agg #[.string y0, .string y1, .int .i64 y2, .string y3])).run Tryz.prog w = .ok ((x0.toList == y0.toList && (x1.toList == y1.toList)) && (x2 == y2 && (x3.toList == y3.toList))) w := by
  refine eqA_of Tryz.underlying34 (by kernel_rfl) ?_
  refine eqf_cons (by rfl) (by go_simp) (by go_simp) (eqA32 (d + 0) w _ _ _ _) ?_
  refine eqf_cons (by rfl) (by go_simp; rfl) (by go_simp; rfl) (by go_simp) ?_
  exact eqf_last (by rfl) (by go_simp; rfl) (by go_simp; rfl) (by go_simp)
end Go.Proofs.YtcpmoolpbeeedaaGreatDoor.Q
