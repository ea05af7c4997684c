/- A time by value, opened and shut; a world for the witness; what a row's list gives. -/
import Derived.Test.YtocdojegoakmoaaDoorLaid
import Derived.Test.YtocdojegoakmoaaDoorCards
import Derived.Test.YtocdojegoakmoaaDoorTie
import Derived.WalkKit
import Derived.ProofKit
import Derived.OpenShut
import Derived.Lay
import Derived.Deep.DeepHandedRow
import Derived.Deep.DeepWitnessRowRef
import Derived.Deep.Fields
import Derived.ChangeSame
namespace Go.Proofs.YtocdojegoakmoaaDoor.Q
open Go.ChangeShapes Go.WideShapes Go.ChangeAt Go.RowKit

theorem own : ownKnob Tryd.prog.godebug = none := by kernel_rfl
theorem cells32 : Tryd.prog.cellsOf 32 = 7 := by kernel_rfl
theorem cells3 : Tryd.prog.cellsOf 3 = 1 := by kernel_rfl
section
variable {H : Type} {enc : TypeId × Value → H} {w : World} {base : Nat} {spare : Nat → Bool} {held : Bool}
theorem trod_i64 {z : Int} (hw : (Lit.int .i64 z).wf = true) : DataW.trod enc Tryd.prog w base spare held 1 3 [.int .i64 z] = some (.lit (.int .i64 z), []) := by
  unfold DataW.trod
  rw [Tryd.underlying3]
  simp_all
set_option maxRecDepth 100000 in
theorem open_time {r : Reach} {b0 : Nat} {v : Value} {d : DataW H} {p : List MemPlace} (hv : Value.okWide Tryd.prog w r b0 32 v) (h : DataW.Trod enc Tryd.prog w base spare held 32 v d p) :
    ∃ z0 z1 z2 z3 z4 z5 z6 : Int, v = .agg #[.int .i64 z0, .int .i64 z1, .int .i64 z2, .int .i64 z3, .int .i64 z4, .int .i64 z5, .int .i64 z6] ∧
      d = .agg [.lit (.int .i64 z0), .lit (.int .i64 z1), .lit (.int .i64 z2), .lit (.int .i64 z3), .lit (.int .i64 z4), .lit (.int .i64 z5), .lit (.int .i64 z6)] ∧ p = [] ∧
      (Lit.int .i64 z0).wf = true ∧ (Lit.int .i64 z1).wf = true ∧ (Lit.int .i64 z2).wf = true ∧ (Lit.int .i64 z3).wf = true ∧ (Lit.int .i64 z4).wf = true ∧ (Lit.int .i64 z5).wf = true ∧ (Lit.int .i64 z6).wf = true := by
  obtain ⟨⟨cs⟩, rfl, hsz⟩ := okWide_struct Tryd.underlying32 hv
  rw [cells32] at hsz
  obtain ⟨fuel, hf⟩ := h
  obtain ⟨xs, n, _, hx, hl, hlen, hat⟩ := DataW.trod_struct Tryd.underlying32 hf
  match cs, hsz, xs, hlen with
  | [v0, v1, v2, v3, v4, v5, v6], _, [y0, y1, y2, y3, y4, y5, y6], _ =>
    have h0 : DataW.trod enc Tryd.prog w base spare held n 3 (([v0, v1, v2, v3, v4, v5, v6].drop 0).take (Tryd.prog.cellsOf 3)) = some y0 := hat 0 _ rfl
    have h1 : DataW.trod enc Tryd.prog w base spare held n 3 (([v0, v1, v2, v3, v4, v5, v6].drop 1).take (Tryd.prog.cellsOf 3)) = some y1 := hat 1 _ rfl
    have h2 : DataW.trod enc Tryd.prog w base spare held n 3 (([v0, v1, v2, v3, v4, v5, v6].drop 2).take (Tryd.prog.cellsOf 3)) = some y2 := hat 2 _ rfl
    have h3 : DataW.trod enc Tryd.prog w base spare held n 3 (([v0, v1, v2, v3, v4, v5, v6].drop 3).take (Tryd.prog.cellsOf 3)) = some y3 := hat 3 _ rfl
    have h4 : DataW.trod enc Tryd.prog w base spare held n 3 (([v0, v1, v2, v3, v4, v5, v6].drop 4).take (Tryd.prog.cellsOf 3)) = some y4 := hat 4 _ rfl
    have h5 : DataW.trod enc Tryd.prog w base spare held n 3 (([v0, v1, v2, v3, v4, v5, v6].drop 5).take (Tryd.prog.cellsOf 3)) = some y5 := hat 5 _ rfl
    have h6 : DataW.trod enc Tryd.prog w base spare held n 3 (([v0, v1, v2, v3, v4, v5, v6].drop 6).take (Tryd.prog.cellsOf 3)) = some y6 := hat 6 _ rfl
    rw [cells3] at h0 h1 h2 h3 h4 h5 h6
    obtain ⟨z0, e0, rfl, w0⟩ := DataW.trod_int Tryd.underlying3 (show DataW.trod enc Tryd.prog w base spare held n 3 [v0] = some y0 from h0)
    obtain ⟨z1, e1, rfl, w1⟩ := DataW.trod_int Tryd.underlying3 (show DataW.trod enc Tryd.prog w base spare held n 3 [v1] = some y1 from h1)
    obtain ⟨z2, e2, rfl, w2⟩ := DataW.trod_int Tryd.underlying3 (show DataW.trod enc Tryd.prog w base spare held n 3 [v2] = some y2 from h2)
    obtain ⟨z3, e3, rfl, w3⟩ := DataW.trod_int Tryd.underlying3 (show DataW.trod enc Tryd.prog w base spare held n 3 [v3] = some y3 from h3)
    obtain ⟨z4, e4, rfl, w4⟩ := DataW.trod_int Tryd.underlying3 (show DataW.trod enc Tryd.prog w base spare held n 3 [v4] = some y4 from h4)
    obtain ⟨z5, e5, rfl, w5⟩ := DataW.trod_int Tryd.underlying3 (show DataW.trod enc Tryd.prog w base spare held n 3 [v5] = some y5 from h5)
    obtain ⟨z6, e6, rfl, w6⟩ := DataW.trod_int Tryd.underlying3 (show DataW.trod enc Tryd.prog w base spare held n 3 [v6] = some y6 from h6)
    obtain rfl : v0 = .int .i64 z0 := by simpa using e0
    obtain rfl : v1 = .int .i64 z1 := by simpa using e1
    obtain rfl : v2 = .int .i64 z2 := by simpa using e2
    obtain rfl : v3 = .int .i64 z3 := by simpa using e3
    obtain rfl : v4 = .int .i64 z4 := by simpa using e4
    obtain rfl : v5 = .int .i64 z5 := by simpa using e5
    obtain rfl : v6 = .int .i64 z6 := by simpa using e6
    simp only [Prod.mk.injEq] at hx
    exact ⟨z0, z1, z2, z3, z4, z5, z6, rfl, by simpa using hx.1, by simpa using hx.2, w0, w1, w2, w3, w4, w5, w6⟩
theorem shut_time {z0 z1 z2 z3 z4 z5 z6 : Int} (w0 : (Lit.int .i64 z0).wf = true) (w1 : (Lit.int .i64 z1).wf = true) (w2 : (Lit.int .i64 z2).wf = true) (w3 : (Lit.int .i64 z3).wf = true) (w4 : (Lit.int .i64 z4).wf = true) (w5 : (Lit.int .i64 z5).wf = true) (w6 : (Lit.int .i64 z6).wf = true) :
    DataW.Trod enc Tryd.prog w base spare held 32 (.agg #[.int .i64 z0, .int .i64 z1, .int .i64 z2, .int .i64 z3, .int .i64 z4, .int .i64 z5, .int .i64 z6])
      (.agg [.lit (.int .i64 z0), .lit (.int .i64 z1), .lit (.int .i64 z2), .lit (.int .i64 z3), .lit (.int .i64 z4), .lit (.int .i64 z5), .lit (.int .i64 z6)]) [] := by
  have ts := trod_struct_mk (enc := enc) (w := w) (base := base) (spare := spare) (held := held) (n := 1) (cs := [.int .i64 z0, .int .i64 z1, .int .i64 z2, .int .i64 z3, .int .i64 z4, .int .i64 z5, .int .i64 z6])
    (xs := [(.lit (.int .i64 z0), []), (.lit (.int .i64 z1), []), (.lit (.int .i64 z2), []), (.lit (.int .i64 z3), []), (.lit (.int .i64 z4), []), (.lit (.int .i64 z5), []), (.lit (.int .i64 z6), [])]) Tryd.underlying32 (by rw [cells32]; rfl)
    (by simp only [cells3, List.mapM_cons, List.mapM_nil, List.drop_zero, List.drop_succ_cons, List.take_succ_cons, List.take_zero, trod_i64 w0, trod_i64 w1, trod_i64 w2, trod_i64 w3, trod_i64 w4, trod_i64 w5, trod_i64 w6]; rfl)
  exact ⟨_, by simpa [Value.cells] using ts⟩
end
/-- A world for the witness: the settled one, each listed variable laid. -/
noncomputable def laidWorld (os : Os) : World := World.laidAll Tryd.prog os laidList
set_option maxRecDepth 100000 in
theorem laid_met (os : Os) (args : Array Value) : laidMet Tryd.prog laidList ((laidWorld os).forCall (fun _ _ => 0) ⟨#[], args, []⟩).memory :=
  laidMet_laidAll args (by kernel_rfl) (by kernel_rfl)
end Go.Proofs.YtocdojegoakmoaaDoor.Q
