/- A row of calls (the law's type 22): opened. -/
import Derived.Test.YtbifmgenljjleaaSpI
import Derived.Test.YtbifmgenljjleaaRows
import Derived.Deep.Slices
import Derived.Carry
import Derived.ProofKit
import Derived.OpenShut
import Derived.ShutString
import Derived.ChangeOld
import Derived.Below
import Derived.SizedLaws
namespace Go.Proofs.Ytbifmgenljjleaa.Sp
open Go Go.RowKit Go.ChangeShapes Go.WideShapes Go.ChangeAt Go.Deep Go.Proofs.YtbifmgenljjleaaW.PrintWords

theorem cells_31 : Try.prog.cellsOf 31 = 6 := by kernel_rfl
theorem cells_29 : Try.prog.cellsOf 29 = 4 := by kernel_rfl
theorem cells_9 : Try.prog.cellsOf 9 = 1 := by kernel_rfl
theorem cells_3 : Try.prog.cellsOf 3 = 1 := by kernel_rfl
theorem cells_4 : Try.prog.cellsOf 4 = 1 := by kernel_rfl
section
variable {H : Type} {enc : TypeId × Value → H} {w : World} {base : Nat} {spare : Nat → Bool} {held : Bool}
set_option maxRecDepth 100000 in
theorem entry_cells {n : Nat} {v0 v1 v2 v3 : Value} {y : DataW H × List MemPlace} (h : DataW.trod enc Try.prog w base spare held n 29 [v0, v1, v2, v3] = some y) :
    ∃ x : E, [v0, v1, v2, v3] = x.cells ∧ x.key.size ≤ maxLen := by
  obtain ⟨xs, n, _, hx, hl, hlen2, hat⟩ := DataW.trod_struct Try.underlying29 h
  match xs, hlen2 with
  | [y0, y1, y2, y3], _ =>
    have h0 : DataW.trod enc Try.prog w base spare held n 9 (([v0, v1, v2, v3].drop 0).take (Try.prog.cellsOf 9)) = some y0 := hat 0 _ rfl
    have h1 : DataW.trod enc Try.prog w base spare held n 9 (([v0, v1, v2, v3].drop 1).take (Try.prog.cellsOf 9)) = some y1 := hat 1 _ rfl
    have h2 : DataW.trod enc Try.prog w base spare held n 9 (([v0, v1, v2, v3].drop 2).take (Try.prog.cellsOf 9)) = some y2 := hat 2 _ rfl
    have h3 : DataW.trod enc Try.prog w base spare held n 9 (([v0, v1, v2, v3].drop 3).take (Try.prog.cellsOf 9)) = some y3 := hat 3 _ rfl
    rw [cells_9] at h0 h1 h2 h3
    obtain ⟨z0, e0, _, w0⟩ := DataW.trod_string Try.underlying9 (show DataW.trod enc Try.prog w base spare held n 9 [v0] = some y0 from h0)
    obtain ⟨z1, e1, _, w1⟩ := DataW.trod_string Try.underlying9 (show DataW.trod enc Try.prog w base spare held n 9 [v1] = some y1 from h1)
    obtain ⟨z2, e2, _, w2⟩ := DataW.trod_string Try.underlying9 (show DataW.trod enc Try.prog w base spare held n 9 [v2] = some y2 from h2)
    obtain ⟨z3, e3, _, w3⟩ := DataW.trod_string Try.underlying9 (show DataW.trod enc Try.prog w base spare held n 9 [v3] = some y3 from h3)
    obtain rfl : v0 = .string z0 := by simpa using e0
    obtain rfl : v1 = .string z1 := by simpa using e1
    obtain rfl : v2 = .string z2 := by simpa using e2
    obtain rfl : v3 = .string z3 := by simpa using e3
    exact ⟨⟨z0, z1, z2, z3⟩, rfl, w0⟩
set_option maxRecDepth 100000 in
theorem act_cells {n : Nat} {cs : List Value} {y : DataW H × List MemPlace} (hlen : cs.length = 6) (h : DataW.trod enc Try.prog w base spare held n 31 cs = some y) :
    ∃ x : A, cs = x.cells ∧ x.e.key.size ≤ maxLen := by
  obtain ⟨xs, n, _, hx, hl, hlen2, hat⟩ := DataW.trod_struct Try.underlying31 h
  match cs, hlen, xs, hlen2 with
  | [v0, v1, v2, v3, v4, v5], _, [y0, y1, y2], _ =>
    have h0 : DataW.trod enc Try.prog w base spare held n 3 (([v0, v1, v2, v3, v4, v5].drop 0).take (Try.prog.cellsOf 3)) = some y0 := hat 0 _ rfl
    have h1 : DataW.trod enc Try.prog w base spare held n 29 (([v0, v1, v2, v3, v4, v5].drop 1).take (Try.prog.cellsOf 29)) = some y1 := hat 1 _ rfl
    have h2 : DataW.trod enc Try.prog w base spare held n 4 (([v0, v1, v2, v3, v4, v5].drop 5).take (Try.prog.cellsOf 4)) = some y2 := hat 2 _ rfl
    rw [cells_3] at h0
    rw [cells_29] at h1
    rw [cells_4] at h2
    obtain ⟨z0, e0, _, w0⟩ := DataW.trod_int Try.underlying3 (show DataW.trod enc Try.prog w base spare held n 3 [v0] = some y0 from h0)
    obtain ⟨x, e1, w1⟩ := entry_cells (show DataW.trod enc Try.prog w base spare held n 29 [v1, v2, v3, v4] = some y1 from h1)
    obtain ⟨z2, e2, _⟩ := DataW.trod_bool Try.underlying4 (show DataW.trod enc Try.prog w base spare held n 4 [v5] = some y2 from h2)
    obtain rfl : v0 = .int .i64 z0 := by simpa using e0
    obtain rfl : v5 = .bool z2 := by simpa using e2
    refine ⟨⟨z0, x, z2⟩, ?_, w1⟩
    simp only [E.cells, List.cons.injEq, and_true] at e1
    obtain ⟨rfl, rfl, rfl, rfl⟩ := e1
    rfl
set_option maxRecDepth 100000 in
theorem open_acts {a : Option Addr} {len cap : Nat} {d : DataW H} {p : List MemPlace} (h : DataW.Trod enc Try.prog w base spare held 22 (.slice a len cap) d p) :
    ∃ l : List A, l.length = len ∧ ArgActs w a l ∧ Keyd l ∧ len ≤ 9223372036854775807 := by
  obtain ⟨fuel, hf⟩ := h
  have mx : maxLen ≤ 9223372036854775807 := by decide
  rcases open_slice Try.underlying22 hf with ⟨hcs, _⟩ | ⟨a', n, c, m, f, D, Pl, hcs, _, hl, hm, hmm, _, hx⟩
  · simp [Value.cells] at hcs
    obtain ⟨rfl, rfl, rfl⟩ := hcs
    exact ⟨[], rfl, fun h => absurd h (by simp), fun x hx => by simp at hx, by omega⟩
  · simp [Value.cells] at hcs
    obtain ⟨rfl, rfl, rfl⟩ := hcs
    rw [cells_31] at hx
    have hlm : len ≤ m := by rw [hmm]; split <;> omega
    have each : ∀ i, i < len → ∃ x : A, x.e.key.size ≤ maxLen ∧ ∀ j u, x.cells[j]? = some u → w.cell? (a'.add (i * 6 + j)) = some u := by
      intro i hi
      obtain ⟨cs, h1, h2⟩ := hx i (by omega)
      obtain ⟨_, hcl, hat⟩ := World.cells?_some h1
      obtain ⟨x, rfl, wk⟩ := act_cells hcl h2
      refine ⟨x, wk, fun j u hu => ?_⟩
      have hj : j < 6 := by
        rcases Nat.lt_or_ge j 6 with h | h
        · exact h
        · rw [List.getElem?_eq_none (by simpa [A.cells] using h)] at hu
          cases hu
      rw [← Go.Deep.add_add, hat j hj, hu]
    have z : A := ⟨0, ⟨⟨#[]⟩, ⟨#[]⟩, ⟨#[]⟩, ⟨#[]⟩⟩, false⟩
    refine ⟨(List.range len).map fun i => if h : i < len then Classical.choose (each i h) else z, by simp, fun h0 => ?_, fun x hx => ?_, by omega⟩
    · have h0' : 0 < len := by simpa using h0
      obtain ⟨x, _, hc0⟩ := each 0 h0'
      have hcc := hc0 0 _ rfl
      have hsp : a'.spot = none := by
        have h3 := hcc
        unfold World.cell? at h3
        split at h3
        · cases hs : a'.spot with
          | none => rfl
          | some s =>
            have : ((a'.add (0 * 6 + 0)).spot) = some s := by simpa [Addr.add] using hs
            rw [this] at h3
            simp at h3
        · cases h3
      refine ⟨a'.block, a'.off, ?_, ?_, fun i hi j u hu => ?_⟩
      · cases a'
        simp_all
      · have := World.block_lt_of_cell? w _ hcc
        simpa [Addr.add] using this
      · have hi' : i < len := by simpa using hi
        simp only [List.getElem_map, List.getElem_range, dif_pos hi'] at hu
        have := (Classical.choose_spec (each i hi')).2 j u hu
        have hadd : a'.add (i * 6 + j) = ⟨a'.block, a'.off + i * 6 + j, none⟩ := by
          obtain ⟨b, o, s⟩ := a'
          obtain rfl : s = none := hsp
          simp only [Addr.add]
          split
          · rename_i h
            have h' : i * 6 + j = 0 := by simpa using h
            congr 1
            show o = o + i * 6 + j
            omega
          · congr 1
            show o + (i * 6 + j) = o + i * 6 + j
            omega
        rwa [hadd] at this
    · obtain ⟨i, hi, rfl⟩ := List.mem_map.1 hx
      have hi' : i < len := by simpa using hi
      simp only [dif_pos hi']
      exact (Classical.choose_spec (each i hi')).1
end
end Go.Proofs.Ytbifmgenljjleaa.Sp
