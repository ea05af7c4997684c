-- Written by a program of this session (wip/myprint) out of the translation, for YtocdojegoakmoaaDoor.
import Derived.Test.YtocdojegoakmoaaDoorProg
import Derived.Below
import Derived.Deep.Draws
import Derived.Deep.AppendLies
import Derived.Maps.AppendAt
import Derived.OwnWalk
import Derived.Laws.BytesArg
import Derived.Laws.MakeOwn
import Derived.Laws.OwnMore
import Derived.Deep.OwnRows
import Derived.Tactics
import Derived.Lib.ConvBytes
import Derived.Laws.Slices
import Derived.WalkKit
import Derived.KernelRfl
import Derived.RowKit3
import Derived.Deep.LoopGhost
import Derived.Deep.QuietTactic
import Derived.BigQuiet
import Derived.WideLaws
import Derived.Deep.DeepCutAuto
import Derived.Deep.CutBlock
import Derived.Deep.RegionHeld3
import Derived.Laws.Rows
import Derived.Lib.AppendStr
import Derived.ArgAppend
import Derived.Laws.IdiomCopy
import Derived.OrdersHeld
import Derived.Laws.BitsLemmas
import Derived.RowKit
import Derived.LoopN
import Derived.Test.YtocdojegoakmoaaDoorZAmb
import Derived.Test.YtocdojegoakmoaaDoorZBld
import Derived.Test.YtocdojegoakmoaaDoorShelf
import Derived.Lib.Hide
import Derived.WalkLawsBesides
import Derived.Handy
import Derived.Test.YtocdojegoakmoaaDoorWWords
import Derived.Test.YtocdojegoakmoaaDoorWLast
import Derived.Test.YtocdojegoakmoaaDoorWTab
import Derived.Test.YtocdojegoakmoaaDoorWFour
import Derived.Test.YtocdojegoakmoaaDoorWQPut
import Derived.Test.YtocdojegoakmoaaDoorWApart
import Derived.Test.YtocdojegoakmoaaDoorWArr
import Derived.Test.YtocdojegoakmoaaDoorWZeros
import Derived.Test.YtocdojegoakmoaaDoorWFoot
import Derived.Test.YtocdojegoakmoaaDoorWKept
import Derived.Test.YtocdojegoakmoaaDoorWShare
import Derived.Test.YtocdojegoakmoaaDoorWN
import Derived.Test.YtocdojegoakmoaaDoorWFootNe
import Derived.Test.YtocdojegoakmoaaDoorWAt
import Derived.Test.YtocdojegoakmoaaDoorWEqStruct
import Derived.Test.YtocdojegoakmoaaDoorWRepsOne
import Derived.Test.YtocdojegoakmoaaDoorWInv
import Derived.Test.YtocdojegoakmoaaDoorWInvWords
import Derived.Test.YtocdojegoakmoaaDoorWGuard
import Derived.Test.YtocdojegoakmoaaDoorWNEv
import Derived.Test.YtocdojegoakmoaaDoorWMore
namespace Go.Proofs.YtocdojegoakmoaaDoor.Z
open Go.RowKit Go.Proofs.YtocdojegoakmoaaDoorW.PrintWords Go.Proofs.YtocdojegoakmoaaDoorW.PrintLast Go.Proofs.YtocdojegoakmoaaDoorW.PrintMore
attribute [local go_sem] max2_int min2_int max_two min_two max_three min_three max_four min_four   -- for this text's walks alone
set_option linter.unusedVariables false
set_option linter.unusedSimpArgs false



abbrev tt : Bool := true
abbrev ff : Bool := false
def errW : Option Int → Value
  | none => .nilIface
  | some c => .iface 0 (.int .i64 c)
theorem errW_none : errW none = .nilIface := rfl
theorem errW_some (c : Int) : errW (some c) = .iface 0 (.int .i64 c) := rfl

theorem info5 : (Tryd.prog.info? 5).map (fun i => (i.zero, i.size, i.bytes)) = some (some (.int .u8 0), 1, 1) := by kernel_rfl
theorem info9 : (Tryd.prog.info? 9).map (fun i => (i.zero, i.size, i.bytes)) = some (some (.string ⟨#[]⟩), 1, 16) := by kernel_rfl
-- the values' own types

end Go.Proofs.YtocdojegoakmoaaDoor.Z
