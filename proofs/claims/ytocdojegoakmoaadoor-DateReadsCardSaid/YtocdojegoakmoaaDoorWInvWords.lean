import Derived.Test.YtocdojegoakmoaaDoorWInv
import Derived.Test.YtocdojegoakmoaaDoorWFootNe
namespace Go.Proofs.YtocdojegoakmoaaDoorW.PrintWords
open Go.RowKit
end Go.Proofs.YtocdojegoakmoaaDoorW.PrintWords
namespace Go.Proofs.YtocdojegoakmoaaDoorW.PrintLast
section
variable {ops : Array Oper} {a : Act} {o og : Oper} {g : Nat} {t : Tmp} {u : Bool}
end
end Go.Proofs.YtocdojegoakmoaaDoorW.PrintLast
