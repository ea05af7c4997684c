-- Written by a program of this session (wip/myprint) out of the translation, for Ytmkmkknnlckibaa.
import Derived.Test.YtmkmkknnlckibaaProg
import Derived.Below
import Derived.Deep.Draws
import Derived.Deep.AppendLies
import Derived.Maps.AppendAt
import Derived.OwnWalk
import Derived.Laws.BytesArg
import Derived.Laws.MakeOwn
import Derived.Laws.OwnMore
import Derived.Deep.OwnRows
import Derived.Tactics
import Derived.Lib.ConvBytes
import Derived.Laws.Slices
import Derived.WalkKit
import Derived.KernelRfl
import Derived.RowKit3
import Derived.Deep.LoopGhost
import Derived.Deep.QuietTactic
import Derived.BigQuiet
import Derived.WideLaws
import Derived.Deep.DeepCutAuto
import Derived.Deep.CutBlock
import Derived.Deep.RegionHeld3
import Derived.Laws.Rows
import Derived.Lib.AppendStr
import Derived.ArgAppend
import Derived.Laws.IdiomCopy
import Derived.OrdersHeld
import Derived.Laws.BitsLemmas
import Derived.RowKit
import Derived.LoopN
import Derived.Test.YtmkmkknnlckibaaWWords
import Derived.Test.YtmkmkknnlckibaaWLast
import Derived.Test.YtmkmkknnlckibaaWTab
import Derived.Test.YtmkmkknnlckibaaWFour
import Derived.Test.YtmkmkknnlckibaaWQPut
import Derived.Test.YtmkmkknnlckibaaWApart
import Derived.Test.YtmkmkknnlckibaaWArr
import Derived.Test.YtmkmkknnlckibaaWZeros
import Derived.Test.YtmkmkknnlckibaaWFoot
import Derived.Test.YtmkmkknnlckibaaWKept
import Derived.Test.YtmkmkknnlckibaaWShare
import Derived.Test.YtmkmkknnlckibaaWN
import Derived.Test.YtmkmkknnlckibaaWFootNe
import Derived.Test.YtmkmkknnlckibaaWAt
import Derived.Test.YtmkmkknnlckibaaWEqStruct
import Derived.Test.YtmkmkknnlckibaaWRepsOne
import Derived.Test.YtmkmkknnlckibaaWInv
import Derived.Test.YtmkmkknnlckibaaWInvWords
import Derived.Test.YtmkmkknnlckibaaWGuard
import Derived.Test.YtmkmkknnlckibaaWNEv
import Derived.Test.YtmkmkknnlckibaaWMore
namespace Go.Proofs.Ytmkmkknnlckibaa.Q
open Go.RowKit Go.Proofs.YtmkmkknnlckibaaW.PrintWords Go.Proofs.YtmkmkknnlckibaaW.PrintLast Go.Proofs.YtmkmkknnlckibaaW.PrintMore
attribute [local go_sem] max2_int min2_int max_two min_two max_three min_three max_four min_four   -- for this text's walks alone
set_option linter.unusedVariables false
set_option linter.unusedSimpArgs false



def errW : Option Int → Value
  | none => .nilIface
  | some c => .iface 0 (.int .i64 c)
theorem errW_none : errW none = .nilIface := rfl
theorem errW_some (c : Int) : errW (some c) = .iface 0 (.int .i64 c) := rfl

theorem info5 : (Try.prog.info? 5).map (fun i => (i.zero, i.size, i.bytes)) = some (some (.int .u8 0), 1, 1) := by kernel_rfl
-- the values' own types

end Go.Proofs.Ytmkmkknnlckibaa.Q
