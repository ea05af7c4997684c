/- A row of Mails (the document's): opened. -/
import Derived.Test.YtcpmoolpbeeedaaGreatDoorOpenM
import Derived.Test.YtcpmoolpbeeedaaGreatDoorQ0
import Derived.Deep.Slices
import Derived.Carry
namespace Go.Proofs.YtcpmoolpbeeedaaGreatDoor.Q
open Go.ChangeShapes Go.WideShapes Go.ChangeAt Go.RowKit Go.Deep Go.Proofs.YtcpmoolpbeeedaaGreatDoorW.PrintWords

section
variable {H : Type} {enc : TypeId × Value → H} {w : World} {base : Nat} {spare : Nat → Bool} {held : Bool}
set_option maxRecDepth 100000 in
theorem mail_cells {n : Nat} {cs : List Value} {y : DataW H × List MemPlace} (hlen : cs.length = 4) (h : DataW.trod enc Tryz.prog w base spare held n 28 cs = some y) :
    ∃ x : S28, cs = [.string x.f0.f0, .string x.f0.f1, .int .i64 x.f1, .string x.f2] := by
  obtain ⟨xs, n, _, hx, hl, hlen2, hat⟩ := DataW.trod_struct Tryz.underlying28 h
  match cs, hlen, xs, hlen2 with
  | [v0, v1, v2, v3], _, [y0, y1, y2], _ =>
    have h0 : DataW.trod enc Tryz.prog w base spare held n 26 (([v0, v1, v2, v3].drop 0).take (Tryz.prog.cellsOf 26)) = some y0 := hat 0 _ rfl
    have h1 : DataW.trod enc Tryz.prog w base spare held n 3 (([v0, v1, v2, v3].drop 2).take (Tryz.prog.cellsOf 3)) = some y1 := hat 1 _ rfl
    have h2 : DataW.trod enc Tryz.prog w base spare held n 9 (([v0, v1, v2, v3].drop 3).take (Tryz.prog.cellsOf 9)) = some y2 := hat 2 _ rfl
    rw [cells_m26] at h0
    rw [cells_m3] at h1
    rw [cells_m9] at h2
    obtain ⟨z0, z1, rfl, rfl, rfl, w0, w1⟩ := open_two (show DataW.trod enc Tryz.prog w base spare held n 26 [v0, v1] = some y0 from h0)
    obtain ⟨z2, e2, rfl, w2⟩ := DataW.trod_int Tryz.underlying3 (show DataW.trod enc Tryz.prog w base spare held n 3 [v2] = some y1 from h1)
    obtain ⟨z3, e3, rfl, w3⟩ := DataW.trod_string Tryz.underlying9 (show DataW.trod enc Tryz.prog w base spare held n 9 [v3] = some y2 from h2)
    obtain rfl : v2 = .int .i64 z2 := by simpa using e2
    obtain rfl : v3 = .string z3 := by simpa using e3
    exact ⟨⟨⟨z0, z1⟩, z2, z3⟩, rfl⟩
set_option maxRecDepth 100000 in
theorem open_mails {A : Option Addr} {len cap : Nat} {d : DataW H} {p : List MemPlace} (h : DataW.Trod enc Tryz.prog w base spare held 30 (.slice A len cap) d p) :
    ∃ l : List S28, l.length = len ∧ Kd.C k28 w A l.length l ∧ l.length ≤ cap := by
  obtain ⟨fuel, hf⟩ := h
  rcases open_slice Tryz.underlying30 hf with ⟨hcs, _⟩ | ⟨a, n, c, m, f, D, Pl, hcs, _, hl, hm, hmm, _, hx⟩
  · simp [Value.cells] at hcs
    obtain ⟨rfl, rfl, rfl⟩ := hcs
    exact ⟨[], rfl, Kd.C_nil _ _, Nat.le_refl _⟩
  · simp [Value.cells] at hcs
    obtain ⟨rfl, rfl, rfl⟩ := hcs
    rw [cells_m28] at hx
    have hlm : len ≤ m := by rw [hmm]; split <;> omega
    have each : ∀ i, i < len → ∃ x : S28, ∀ j u, [Value.string x.f0.f0, .string x.f0.f1, .int .i64 x.f1, .string x.f2][j]? = some u → w.cell? (a.add (i * 4 + j)) = some u := by
      intro i hi
      obtain ⟨cs, h1, h2⟩ := hx i (by omega)
      obtain ⟨_, hcl, hat⟩ := World.cells?_some h1
      obtain ⟨x, rfl⟩ := mail_cells hcl h2
      refine ⟨x, fun j u hu => ?_⟩
      have hj : j < 4 := by
        rcases Nat.lt_or_ge j 4 with h | h
        · exact h
        · rw [List.getElem?_eq_none (by simpa using h)] at hu
          cases hu
      rw [← Go.Deep.add_add, hat j hj, hu]
    have mx : maxLen ≤ 9223372036854775807 := by decide
    refine ⟨(List.range len).map fun i => if h : i < len then Classical.choose (each i h) else z28, by simp, ⟨by simp, by simp; omega, fun _ => ⟨a, rfl, fun j q hq => ?_⟩⟩, by simpa using hl⟩
    have hj : j < len := by
      rcases Nat.lt_or_ge j len with h | h
      · exact h
      · rw [List.getElem?_eq_none (by simpa using h)] at hq
        cases hq
    rw [List.getElem?_map, List.getElem?_range hj] at hq
    have hq' : q = Classical.choose (each j hj) := by
      have := Option.some.inj hq
      dsimp only at this
      rw [dif_pos hj] at this
      exact this.symm
    refine ⟨_, rfl, k28_mk w q, fun i u hu => ?_⟩
    rw [hq'] at hu
    exact Classical.choose_spec (each j hj) i u hu
end
end Go.Proofs.YtcpmoolpbeeedaaGreatDoor.Q
