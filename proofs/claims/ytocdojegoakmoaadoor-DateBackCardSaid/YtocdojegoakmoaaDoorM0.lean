/- The chapter's example: told by the kernel. -/
import Derived.Test.YtocdojegoakmoaaDoorQ10
namespace Go.Proofs.YtocdojegoakmoaaDoor.Q
open Go.RowKit Go.Proofs.YtocdojegoakmoaaDoorW.PrintWords
theorem example_is : bulletinlaw22_works.f 60 = some true := by decide +kernel
theorem example_at (k : Nat) (hk : 60 ≤ k) : bulletinlaw22_works.f k = some true := at_rounds bulletinlaw22_works.mono hk example_is
end Go.Proofs.YtocdojegoakmoaaDoor.Q
