/- The premise on the world under which the walks over package-level tables go: what the tables hold; it stands wherever what lay below the heap's end stands. -/
import Derived.Test.YtocdojegoakmoaaDoorProg
import Derived.Below
import Derived.WalkSmall
import Derived.KernelRfl
import Derived.Lib.LaidTab
import Derived.Shelf.Strconv.Itoa3
import Derived.Test.YtocdojegoakmoaaDoorWWords
namespace Go.Proofs.YtocdojegoakmoaaDoor.Z
open Go.RowKit Go.Proofs.YtocdojegoakmoaaDoorW.PrintWords

/-- bulletin/date.weeks -/
def Tab0 : List ByteArray := [⟨#[83, 117, 110]⟩, ⟨#[77, 111, 110]⟩, ⟨#[84, 117, 101]⟩, ⟨#[87, 101, 100]⟩, ⟨#[84, 104, 117]⟩, ⟨#[70, 114, 105]⟩, ⟨#[83, 97, 116]⟩]
/-- bulletin/date.months -/
def Tab1 : List ByteArray := [⟨#[74, 97, 110]⟩, ⟨#[70, 101, 98]⟩, ⟨#[77, 97, 114]⟩, ⟨#[65, 112, 114]⟩, ⟨#[77, 97, 121]⟩, ⟨#[74, 117, 110]⟩, ⟨#[74, 117, 108]⟩, ⟨#[65, 117, 103]⟩, ⟨#[83, 101, 112]⟩, ⟨#[79, 99, 116]⟩, ⟨#[78, 111, 118]⟩, ⟨#[68, 101, 99]⟩]
/-- bulletin/date.before -/
def Tab2 : List Int := [0, 31, 59, 90, 120, 151, 181, 212, 243, 273, 304, 334]

structure Amb (w : World) : Prop where
  b0 : ∃ t fr, w.heap[0]? = some (.cells (Tab0.map Value.string).toArray t fr)
  b1 : ∃ t fr, w.heap[1]? = some (.cells (Tab1.map Value.string).toArray t fr)
  b2 : ∃ t fr, w.heap[2]? = some (.cells (Tab2.map (Value.int .i64)).toArray t fr)
  pow : Lib.TabIs Tryd.prog w "internal/strconv.uint64pow10" .u64 Lib.pow10Tab
  mx : ∃ m, w.cell? ⟨4, 0, none⟩ = some (.int .i64 m)

theorem block_lt {w : World} {g : Nat} {o : Obj} (h : w.heap[g]? = some o) : g < w.heap.size := (Array.getElem?_eq_some_iff.1 h).1
theorem row_cell {α : Type} (enc : α → Value) (d : α) (xs : List α) (w : World) (g : Nat) (t : TypeId) (fr : Nat × Nat) (hb : w.heap[g]? = some (.cells (xs.map enc).toArray t fr)) (i : Nat) (hi : i < xs.length) : w.cell? ⟨g, i, none⟩ = some (enc (xs.getD i d)) := by
  simp [World.cell?, hb, List.getD_eq_getElem?_getD, List.getElem?_eq_getElem hi]
theorem Amb.t0 {w : World} (h : Amb w) : ∀ j : Int, 0 ≤ j → j < 7 → w.cell? ⟨0, j.toNat, none⟩ = some (.string (rdOf ByteArray.empty Tab0 j)) := by
  intro j h0 h1
  obtain ⟨t, fr, hb⟩ := h.b0
  exact row_cell Value.string ByteArray.empty Tab0 w 0 t fr hb j.toNat (by rw [show Tab0.length = 7 from rfl]; omega)
theorem Amb.t1 {w : World} (h : Amb w) : ∀ j : Int, 0 ≤ j → j < 12 → w.cell? ⟨1, j.toNat, none⟩ = some (.string (rdOf ByteArray.empty Tab1 j)) := by
  intro j h0 h1
  obtain ⟨t, fr, hb⟩ := h.b1
  exact row_cell Value.string ByteArray.empty Tab1 w 1 t fr hb j.toNat (by rw [show Tab1.length = 12 from rfl]; omega)
theorem Amb.t2 {w : World} (h : Amb w) : ∀ j : Int, 0 ≤ j → j < 12 → w.cell? ⟨2, j.toNat, none⟩ = some (.int .i64 (rd Tab2 j)) := by
  intro j h0 h1
  obtain ⟨t, fr, hb⟩ := h.b2
  exact row_cell (Value.int .i64) 0 Tab2 w 2 t fr hb j.toNat (by rw [show Tab2.length = 12 from rfl]; omega)

theorem Amb.at {w W : World} (h : Amb w) (hb : Below w.heap.size w W) : Amb W where
  b0 := by
    obtain ⟨t, fr, h0⟩ := h.b0
    exact ⟨t, fr, (hb.block _ (block_lt h0)).trans h0⟩
  b1 := by
    obtain ⟨t, fr, h0⟩ := h.b1
    exact ⟨t, fr, (hb.block _ (block_lt h0)).trans h0⟩
  b2 := by
    obtain ⟨t, fr, h0⟩ := h.b2
    exact ⟨t, fr, (hb.block _ (block_lt h0)).trans h0⟩
  pow := var?_below hb (show Tryd.prog.globalNamed "internal/strconv.uint64pow10" = some 3 by kernel_rfl) (World.block_lt_of_cell? w _ (h.pow.cell (show Tryd.prog.globalNamed "internal/strconv.uint64pow10" = some 3 by kernel_rfl) 0 (by decide))) h.pow
  mx := by
    obtain ⟨m, hm⟩ := h.mx
    exact ⟨m, (hb.cell (World.block_lt_of_cell? w _ hm)).trans hm⟩
theorem Amb.drawn {w W : World} (h : Amb w) (hd : Drawn0 w W) : Amb W := h.at hd.below

end Go.Proofs.YtocdojegoakmoaaDoor.Z
