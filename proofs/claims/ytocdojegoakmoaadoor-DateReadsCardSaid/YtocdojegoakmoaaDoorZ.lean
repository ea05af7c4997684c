-- Written by a program of this session (wip/myprint) out of the translation, for YtocdojegoakmoaaDoor.
import Derived.Test.YtocdojegoakmoaaDoorZ0
import Derived.Test.YtocdojegoakmoaaDoorZ1
import Derived.Test.YtocdojegoakmoaaDoorZ2
import Derived.Test.YtocdojegoakmoaaDoorZ3
import Derived.Test.YtocdojegoakmoaaDoorZ4
import Derived.Test.YtocdojegoakmoaaDoorZ5
import Derived.Test.YtocdojegoakmoaaDoorZ6
import Derived.Test.YtocdojegoakmoaaDoorZ7
import Derived.Test.YtocdojegoakmoaaDoorZ8
import Derived.Test.YtocdojegoakmoaaDoorZ9
import Derived.Test.YtocdojegoakmoaaDoorZ10
import Derived.Test.YtocdojegoakmoaaDoorZ11
import Derived.Test.YtocdojegoakmoaaDoorZ12
import Derived.Test.YtocdojegoakmoaaDoorZ13
import Derived.Test.YtocdojegoakmoaaDoorZ14
import Derived.Test.YtocdojegoakmoaaDoorZ15
namespace Go.Proofs.YtocdojegoakmoaaDoor.Z
open Go.RowKit Go.Proofs.YtocdojegoakmoaaDoorW.PrintWords Go.Proofs.YtocdojegoakmoaaDoorW.PrintLast Go.Proofs.YtocdojegoakmoaaDoorW.PrintMore
attribute [local go_sem] max2_int min2_int max_two min_two max_three min_three max_four min_four   -- for this text's walks alone
set_option linter.unusedVariables false
set_option linter.unusedSimpArgs false

end Go.Proofs.YtocdojegoakmoaaDoor.Z
