/- A world for the witness; what a row's list gives. -/
import Derived.Test.YtcgfaagadejpmaaGreatDoorLaid
import Derived.Test.YtcgfaagadejpmaaGreatDoorCards
import Derived.Test.YtcgfaagadejpmaaGreatDoorTie
import Derived.WalkKit
import Derived.ProofKit
import Derived.OpenShut
import Derived.Lay
import Derived.Deep.DeepHandedRow
import Derived.Deep.DeepWitnessRowRef
import Derived.Deep.Fields
import Derived.ChangeSame
import Derived.ChangeMaps5
import Derived.ChangeArms
namespace Go.Proofs.YtcgfaagadejpmaaGreatDoor.Q
open Go.ChangeShapes Go.WideShapes Go.ChangeAt Go.RowKit

theorem own : ownKnob Tryz.prog.godebug = none := by kernel_rfl
/-- A world for the witness: the settled one, each listed variable laid. -/
noncomputable def laidWorld (os : Os) : World := World.laidAll Tryz.prog os laidList
set_option maxRecDepth 100000 in
theorem laid_met (os : Os) (args : Array Value) : laidMet Tryz.prog laidList ((laidWorld os).forCall (fun _ _ => 0) ⟨#[], args, []⟩).memory :=
  laidMet_laidAll args (by kernel_rfl) (by kernel_rfl)
theorem cells_step : Tryz.prog.cellsOf 23 = 5 := by kernel_rfl
theorem cell1_step_3 : Tryz.prog.cellsOf 3 = 1 := by kernel_rfl
theorem cell1_step_9 : Tryz.prog.cellsOf 9 = 1 := by kernel_rfl
section
variable {H : Type} {enc : TypeId × Value → H} {w : World} {base : Nat} {spare : Nat → Bool} {held : Bool}
set_option maxRecDepth 100000 in
theorem open_step {r : Reach} {b0 : Nat} {v : Value} {d : DataW H} {p : List MemPlace} (hv : Value.okWide Tryz.prog w r b0 23 v) (h : DataW.Trod enc Tryz.prog w base spare held 23 v d p) :
    ∃ (z0 : Int) (z1 : ByteArray) (z2 : ByteArray) (z3 : ByteArray) (z4 : Int), v = .agg #[.int .i64 z0, .string z1, .string z2, .string z3, .int .i64 z4] ∧
      d = .agg [.lit (.int .i64 z0), .lit (.string z1.data.toList), .lit (.string z2.data.toList), .lit (.string z3.data.toList), .lit (.int .i64 z4)] ∧ p = [] ∧ (Lit.int .i64 z0).wf = true ∧ z1.size ≤ maxLen ∧ z2.size ≤ maxLen ∧ z3.size ≤ maxLen ∧ (Lit.int .i64 z4).wf = true := by
  obtain ⟨⟨cs⟩, rfl, hsz⟩ := okWide_struct Tryz.underlying23 hv
  rw [cells_step] at hsz
  obtain ⟨fuel, hf⟩ := h
  obtain ⟨xs, n, _, hx, hl, hlen, hat⟩ := DataW.trod_struct Tryz.underlying23 hf
  match cs, hsz, xs, hlen with
  | [v0, v1, v2, v3, v4], _, [y0, y1, y2, y3, y4], _ =>
    have h0 : DataW.trod enc Tryz.prog w base spare held n 3 (([v0, v1, v2, v3, v4].drop 0).take (Tryz.prog.cellsOf 3)) = some y0 := hat 0 _ rfl
    have h1 : DataW.trod enc Tryz.prog w base spare held n 9 (([v0, v1, v2, v3, v4].drop 1).take (Tryz.prog.cellsOf 9)) = some y1 := hat 1 _ rfl
    have h2 : DataW.trod enc Tryz.prog w base spare held n 9 (([v0, v1, v2, v3, v4].drop 2).take (Tryz.prog.cellsOf 9)) = some y2 := hat 2 _ rfl
    have h3 : DataW.trod enc Tryz.prog w base spare held n 9 (([v0, v1, v2, v3, v4].drop 3).take (Tryz.prog.cellsOf 9)) = some y3 := hat 3 _ rfl
    have h4 : DataW.trod enc Tryz.prog w base spare held n 3 (([v0, v1, v2, v3, v4].drop 4).take (Tryz.prog.cellsOf 3)) = some y4 := hat 4 _ rfl
    rw [cell1_step_3] at h0
    rw [cell1_step_9] at h1
    rw [cell1_step_9] at h2
    rw [cell1_step_9] at h3
    rw [cell1_step_3] at h4
    obtain ⟨z0, e0, rfl, w0⟩ := DataW.trod_int Tryz.underlying3 (show DataW.trod enc Tryz.prog w base spare held n 3 [v0] = some y0 from h0)
    obtain ⟨z1, e1, rfl, w1⟩ := DataW.trod_string Tryz.underlying9 (show DataW.trod enc Tryz.prog w base spare held n 9 [v1] = some y1 from h1)
    obtain ⟨z2, e2, rfl, w2⟩ := DataW.trod_string Tryz.underlying9 (show DataW.trod enc Tryz.prog w base spare held n 9 [v2] = some y2 from h2)
    obtain ⟨z3, e3, rfl, w3⟩ := DataW.trod_string Tryz.underlying9 (show DataW.trod enc Tryz.prog w base spare held n 9 [v3] = some y3 from h3)
    obtain ⟨z4, e4, rfl, w4⟩ := DataW.trod_int Tryz.underlying3 (show DataW.trod enc Tryz.prog w base spare held n 3 [v4] = some y4 from h4)
    obtain rfl : v0 = .int .i64 z0 := by simpa using e0
    obtain rfl : v1 = .string z1 := by simpa using e1
    obtain rfl : v2 = .string z2 := by simpa using e2
    obtain rfl : v3 = .string z3 := by simpa using e3
    obtain rfl : v4 = .int .i64 z4 := by simpa using e4
    simp only [Prod.mk.injEq] at hx
    exact ⟨z0, z1, z2, z3, z4, rfl, by simpa using hx.1, by simpa using hx.2, w0, w1, w2, w3, w4⟩
theorem shut_step {z0 : Int} {z1 : ByteArray} {z2 : ByteArray} {z3 : ByteArray} {z4 : Int} (w0 : (Lit.int .i64 z0).wf = true) (w1 : z1.size ≤ maxLen) (w2 : z2.size ≤ maxLen) (w3 : z3.size ≤ maxLen) (w4 : (Lit.int .i64 z4).wf = true) :
    DataW.Trod enc Tryz.prog w base spare held 23 (.agg #[.int .i64 z0, .string z1, .string z2, .string z3, .int .i64 z4])
      (.agg [.lit (.int .i64 z0), .lit (.string z1.data.toList), .lit (.string z2.data.toList), .lit (.string z3.data.toList), .lit (.int .i64 z4)]) [] := by
  have q0 : DataW.trod enc Tryz.prog w base spare held 1 3 [.int .i64 z0] = some (.lit (.int .i64 z0), []) := by
    unfold DataW.trod
    rw [Tryz.underlying3]
    simp_all
  have q1 : DataW.trod enc Tryz.prog w base spare held 1 9 [.string z1] = some (.lit (.string z1.data.toList), []) := by
    unfold DataW.trod
    rw [Tryz.underlying9]
    simp_all
  have q2 : DataW.trod enc Tryz.prog w base spare held 1 9 [.string z2] = some (.lit (.string z2.data.toList), []) := by
    unfold DataW.trod
    rw [Tryz.underlying9]
    simp_all
  have q3 : DataW.trod enc Tryz.prog w base spare held 1 9 [.string z3] = some (.lit (.string z3.data.toList), []) := by
    unfold DataW.trod
    rw [Tryz.underlying9]
    simp_all
  have q4 : DataW.trod enc Tryz.prog w base spare held 1 3 [.int .i64 z4] = some (.lit (.int .i64 z4), []) := by
    unfold DataW.trod
    rw [Tryz.underlying3]
    simp_all
  have ts := trod_struct_mk (enc := enc) (w := w) (base := base) (spare := spare) (held := held) (n := 1) (cs := [.int .i64 z0, .string z1, .string z2, .string z3, .int .i64 z4])
    (xs := [(.lit (.int .i64 z0), []), (.lit (.string z1.data.toList), []), (.lit (.string z2.data.toList), []), (.lit (.string z3.data.toList), []), (.lit (.int .i64 z4), [])]) Tryz.underlying23 (by rw [cells_step]; rfl)
    (by simp only [cell1_step_3, cell1_step_9, List.mapM_cons, List.mapM_nil, List.drop_zero, List.drop_succ_cons, List.take_succ_cons, List.take_zero, q0, q1, q2, q3, q4]; rfl)
  exact ⟨_, by simpa [Value.cells] using ts⟩
end

end Go.Proofs.YtcgfaagadejpmaaGreatDoor.Q
