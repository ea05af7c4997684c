-- Written by a program of this session (wip/myprint) out of the translation, for YtcgfaagadejpmaaGreatDoor.
import Derived.Test.YtcgfaagadejpmaaGreatDoorQ14a
import Derived.Test.YtcgfaagadejpmaaGreatDoorQ14b
import Derived.Test.YtcgfaagadejpmaaGreatDoorQ14c
import Derived.Test.YtcgfaagadejpmaaGreatDoorQ14e
import Derived.Test.YtcgfaagadejpmaaGreatDoorQ14f
import Derived.Test.YtcgfaagadejpmaaGreatDoorQ14z
namespace Go.Proofs.YtcgfaagadejpmaaGreatDoor.Q
open Go.RowKit Go.Proofs.YtcgfaagadejpmaaGreatDoorW.PrintWords Go.Proofs.YtcgfaagadejpmaaGreatDoorW.PrintLast Go.Proofs.YtcgfaagadejpmaaGreatDoorW.PrintMore Go.Proofs.YtcgfaagadejpmaaGreatDoorW.PrintSq
set_option linter.unusedVariables false
set_option linter.unusedSimpArgs false
theorem script_step.calls (k : Nat) (a0 : Int) (A1 : Option Addr) (c1 : Nat) (l1 : List ByteArray) (r1 : Int) (r2 : ByteArray) (r3 : ByteArray) (r4 : ByteArray) (r5 : Int) (r6 : Bool) (w : World) (hG : Amb w) (hr1 : Kd.C Kd.string w A1 l1.length l1) (hc1 : l1.length ≤ c1) (h : script_step.f k a0 l1 = some (r1, r2, r3, r4, r5, r6)) :
    Calls Tryz.prog 33 #[.int .i64 a0, .slice A1 l1.length c1] w fun e w' => e = .returned (.tuple #[.agg #[.int .i64 r1, .string r2, .string r3, .string r4, .int .i64 r5], .bool r6]) ∧ Below w.heap.size w w' := by
  by_cases c3 : a0 = 1
  · exact script_step.calls_0 k a0 A1 c1 l1 r1 r2 r3 r4 r5 r6 w hG hr1 hc1 h c3
  by_cases c6 : a0 = 2
  · exact script_step.calls_1 k a0 A1 c1 l1 r1 r2 r3 r4 r5 r6 w hG hr1 hc1 h c3 c6
  by_cases c18 : a0 = 3
  · exact script_step.calls_2 k a0 A1 c1 l1 r1 r2 r3 r4 r5 r6 w hG hr1 hc1 h c3 c6 c18
  by_cases c78 : a0 = 4
  · exact script_step.calls_3 k a0 A1 c1 l1 r1 r2 r3 r4 r5 r6 w hG hr1 hc1 h c3 c6 c18 c78
  by_cases c98 : a0 = 8
  · exact script_step.calls_4 k a0 A1 c1 l1 r1 r2 r3 r4 r5 r6 w hG hr1 hc1 h c3 c6 c18 c78 c98
  exact script_step.calls_z k a0 A1 c1 l1 r1 r2 r3 r4 r5 r6 w hG hr1 hc1 h c3 c6 c18 c78 c98
end Go.Proofs.YtcgfaagadejpmaaGreatDoor.Q


