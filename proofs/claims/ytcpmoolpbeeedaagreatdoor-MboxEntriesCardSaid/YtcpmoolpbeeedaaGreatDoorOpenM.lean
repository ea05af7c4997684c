/- A Mail by value (document's type 28): opened and shut. -/
import Derived.Test.YtcpmoolpbeeedaaGreatDoorOpen
namespace Go.Proofs.YtcpmoolpbeeedaaGreatDoor.Q
open Go.ChangeShapes Go.WideShapes Go.ChangeAt Go.RowKit

theorem cells_m28 : Tryz.prog.cellsOf 28 = 4 := by kernel_rfl
theorem cells_m26 : Tryz.prog.cellsOf 26 = 2 := by kernel_rfl
theorem cells_m9 : Tryz.prog.cellsOf 9 = 1 := by kernel_rfl
theorem cells_m3 : Tryz.prog.cellsOf 3 = 1 := by kernel_rfl
section
variable {H : Type} {enc : TypeId × Value → H} {w : World} {base : Nat} {spare : Nat → Bool} {held : Bool}
theorem open_two {n : Nat} {v0 v1 : Value} {y : DataW H × List MemPlace} (h : DataW.trod enc Tryz.prog w base spare held n 26 [v0, v1] = some y) :
    ∃ z0 z1 : ByteArray, v0 = .string z0 ∧ v1 = .string z1 ∧ y = (.agg [.lit (.string z0.data.toList), .lit (.string z1.data.toList)], []) ∧ z0.size ≤ maxLen ∧ z1.size ≤ maxLen := by
  obtain ⟨xs, n, _, hx, hl, hlen, hat⟩ := DataW.trod_struct Tryz.underlying26 h
  match xs, hlen with
  | [y0, y1], _ =>
    have h0 : DataW.trod enc Tryz.prog w base spare held n 9 (([v0, v1].drop 0).take (Tryz.prog.cellsOf 9)) = some y0 := hat 0 _ rfl
    have h1 : DataW.trod enc Tryz.prog w base spare held n 9 (([v0, v1].drop 1).take (Tryz.prog.cellsOf 9)) = some y1 := hat 1 _ rfl
    rw [cells_m9] at h0
    rw [cells_m9] at h1
    obtain ⟨z0, e0, rfl, w0⟩ := DataW.trod_string Tryz.underlying9 (show DataW.trod enc Tryz.prog w base spare held n 9 [v0] = some y0 from h0)
    obtain ⟨z1, e1, rfl, w1⟩ := DataW.trod_string Tryz.underlying9 (show DataW.trod enc Tryz.prog w base spare held n 9 [v1] = some y1 from h1)
    exact ⟨z0, z1, by simpa using e0, by simpa using e1, by rw [hx]; rfl, w0, w1⟩
set_option maxRecDepth 100000 in
theorem open_mail {r : Reach} {b0 : Nat} {v : Value} {d : DataW H} {p : List MemPlace} (hv : Value.okWide Tryz.prog w r b0 28 v) (h : DataW.Trod enc Tryz.prog w base spare held 28 v d p) :
    ∃ (z0 : ByteArray) (z1 : ByteArray) (z2 : Int) (z3 : ByteArray), v = .agg #[.string z0, .string z1, .int .i64 z2, .string z3] ∧
      d = .agg [.agg [.lit (.string z0.data.toList), .lit (.string z1.data.toList)], .lit (.int .i64 z2), .lit (.string z3.data.toList)] ∧ p = [] ∧ z0.size ≤ maxLen ∧ z1.size ≤ maxLen ∧ (Lit.int .i64 z2).wf = true ∧ z3.size ≤ maxLen := by
  obtain ⟨⟨cs⟩, rfl, hsz⟩ := okWide_struct Tryz.underlying28 hv
  rw [cells_m28] at hsz
  obtain ⟨fuel, hf⟩ := h
  obtain ⟨xs, n, _, hx, hl, hlen, hat⟩ := DataW.trod_struct Tryz.underlying28 hf
  match cs, hsz, xs, hlen with
  | [v0, v1, v2, v3], _, [y0, y1, y2], _ =>
    have h0 : DataW.trod enc Tryz.prog w base spare held n 26 (([v0, v1, v2, v3].drop 0).take (Tryz.prog.cellsOf 26)) = some y0 := hat 0 _ rfl
    have h1 : DataW.trod enc Tryz.prog w base spare held n 3 (([v0, v1, v2, v3].drop 2).take (Tryz.prog.cellsOf 3)) = some y1 := hat 1 _ rfl
    have h2 : DataW.trod enc Tryz.prog w base spare held n 9 (([v0, v1, v2, v3].drop 3).take (Tryz.prog.cellsOf 9)) = some y2 := hat 2 _ rfl
    rw [cells_m26] at h0
    rw [cells_m3] at h1
    rw [cells_m9] at h2
    obtain ⟨z0, z1, rfl, rfl, rfl, w0, w1⟩ := open_two (show DataW.trod enc Tryz.prog w base spare held n 26 [v0, v1] = some y0 from h0)
    obtain ⟨z2, e2, rfl, w2⟩ := DataW.trod_int Tryz.underlying3 (show DataW.trod enc Tryz.prog w base spare held n 3 [v2] = some y1 from h1)
    obtain ⟨z3, e3, rfl, w3⟩ := DataW.trod_string Tryz.underlying9 (show DataW.trod enc Tryz.prog w base spare held n 9 [v3] = some y2 from h2)
    obtain rfl : v2 = .int .i64 z2 := by simpa using e2
    obtain rfl : v3 = .string z3 := by simpa using e3
    simp only [Prod.mk.injEq] at hx
    exact ⟨z0, z1, z2, z3, rfl, by simpa using hx.1, by simpa using hx.2, w0, w1, w2, w3⟩
theorem trod_s (n : Nat) {z : ByteArray} (h : z.size ≤ maxLen) : DataW.trod enc Tryz.prog w base spare held (n + 1) 9 [.string z] = some (.lit (.string z.data.toList), []) := by
  unfold DataW.trod
  rw [Tryz.underlying9]
  simp_all
theorem trod_i (n : Nat) {z : Int} (h : (Lit.int .i64 z).wf = true) : DataW.trod enc Tryz.prog w base spare held (n + 1) 3 [.int .i64 z] = some (.lit (.int .i64 z), []) := by
  unfold DataW.trod
  rw [Tryz.underlying3]
  simp_all
theorem shut_mail {z0 z1 z3 : ByteArray} {z2 : Int} (w0 : z0.size ≤ maxLen) (w1 : z1.size ≤ maxLen) (w2 : (Lit.int .i64 z2).wf = true) (w3 : z3.size ≤ maxLen) :
    DataW.Trod enc Tryz.prog w base spare held 28 (.agg #[.string z0, .string z1, .int .i64 z2, .string z3])
      (.agg [.agg [.lit (.string z0.data.toList), .lit (.string z1.data.toList)], .lit (.int .i64 z2), .lit (.string z3.data.toList)]) [] := by
  have ta := trod_struct_mk (enc := enc) (w := w) (base := base) (spare := spare) (held := held) (n := 1) (cs := [.string z0, .string z1])
    (xs := [(.lit (.string z0.data.toList), []), (.lit (.string z1.data.toList), [])]) Tryz.underlying26 (by rw [cells_m26]; rfl)
    (by simp only [cells_m9, List.mapM_cons, List.mapM_nil, List.drop_zero, List.drop_succ_cons, List.take_succ_cons, List.take_zero, trod_s 0 w0, trod_s 0 w1]; rfl)
  have ta' : DataW.trod enc Tryz.prog w base spare held 2 26 [.string z0, .string z1] = some (.agg [.lit (.string z0.data.toList), .lit (.string z1.data.toList)], []) := by simpa using ta
  have ts := trod_struct_mk (enc := enc) (w := w) (base := base) (spare := spare) (held := held) (n := 2) (cs := [.string z0, .string z1, .int .i64 z2, .string z3])
    (xs := [(.agg [.lit (.string z0.data.toList), .lit (.string z1.data.toList)], []), (.lit (.int .i64 z2), []), (.lit (.string z3.data.toList), [])]) Tryz.underlying28 (by rw [cells_m28]; rfl)
    (by simp only [cells_m26, cells_m9, cells_m3, List.mapM_cons, List.mapM_nil, List.drop_zero, List.drop_succ_cons, List.take_succ_cons, List.take_zero, ta', trod_i 1 w2, trod_s 1 w3]; rfl)
  exact ⟨_, by simpa [Value.cells] using ts⟩
end
end Go.Proofs.YtcpmoolpbeeedaaGreatDoor.Q
