/- The spool: its state in memory, and what its small methods do (by hand). -/
import Derived.Test.YtbifmgenljjleaaProg
import Derived.Test.YtbifmgenljjleaaWKept
import Derived.Test.YtbifmgenljjleaaWMore
import Derived.Maps.OwnSet
import Derived.Maps.AppendAt
import Derived.Carry
import Derived.WalkKit
import Derived.KernelRfl
namespace Go.Proofs.Ytbifmgenljjleaa.Sp
open Go Go.RowKit Go.Maps Go.Proofs.YtbifmgenljjleaaW.PrintWords

/-- A mail on its way out. -/
structure E where
  key : ByteArray
  fr : ByteArray
  dest : ByteArray
  text : ByteArray
def E.cells (e : E) : List Value := [.string e.key, .string e.fr, .string e.dest, .string e.text]
def flat (l : List E) : List Value := l.flatMap E.cells
/-- Where each key's mail stands, as the map has it. -/
def mapD (l : List E) : DataW Unit :=
  (l.zipIdx).foldl (fun D p => D.put (.string p.1.key.data.toList) (.lit (.int .i64 (p.2 : Int)))) (.map [])
/-- A spool's state at block g: its mails in a row of its own (value v), its map at block bm. -/
structure St (B : Nat) (w : World) (g bm : Nat) (v : Value) (l : List E) (r : Bool) : Prop where
  blk : w.heap[g]? = some (.cells #[v, .map (some bm), .bool r] 57 (0, 0))
  row : w.ownsRow B 34 4 v l.length (flat l)
  map : w.ownsMap Try.prog 9 (plainElem Try.prog 3) bm l.length (mapD l)
  g0 : B ≤ g
  bm0 : B ≤ bm
theorem law9 : Keyed Try.prog 9 := string_keyed Try.underlying9
theorem zero3 (w : World) : (zeroValue 3).run Try.prog w = .ok (.int .i64 0) w := by kernel_rfl

theorem map_of {w w' : World} {b n : Nat} {D : DataW Unit} (h : w.ownsMap Try.prog 9 (plainElem Try.prog 3) b n D) (e : w'.heap[b]? = w.heap[b]?) : w'.ownsMap Try.prog 9 (plainElem Try.prog 3) b n D := by
  obtain ⟨es, c, hb, rest⟩ := h
  exact ⟨es, c, e.trans hb, rest⟩
theorem row_of {w w' : World} {B n : Nat} {v : Value} {xs : List Value} (h : w.ownsRow B 34 4 v n xs) (e : ∀ k, v.ownBlock = some k → w'.heap[k]? = w.heap[k]?) : w'.ownsRow B 34 4 v n xs := by
  refine ⟨h.1, ?_⟩
  rcases h.2 with h2 | ⟨g, cap, cur, h2, h3, h4, h5⟩
  · exact .inl h2
  · exact .inr ⟨g, cap, cur, h2, h3, (e g (by rw [h2]; rfl)).trans h4, h5⟩
theorem St.lt {B : Nat} {w : World} {g bm : Nat} {v : Value} {l : List E} {r : Bool} (h : St B w g bm v l r) : g < w.heap.size ∧ bm < w.heap.size ∧ (∀ k, v.ownBlock = some k → k < w.heap.size) ∧ g ≠ bm ∧ (∀ k, v.ownBlock = some k → k ≠ g ∧ k ≠ bm) := by
  obtain ⟨es, c, hb, _⟩ := h.map
  have hg := h.blk
  have lt : ∀ {k : Nat} {o : Obj}, w.heap[k]? = some o → k < w.heap.size := fun {k o} h => (Array.getElem?_eq_some_iff.1 h).1
  refine ⟨lt hg, lt hb, fun k hk => (h.row.lt k hk).2, fun e => ?_, fun k hk => ?_⟩
  · subst e
    rw [hb] at hg
    cases hg
  · rcases h.row.2 with ⟨h2, _⟩ | ⟨g', cap, cur, h2, h3, h4, _⟩
    · rw [h2] at hk; cases hk
    · rw [h2] at hk
      obtain rfl : g' = k := Option.some.inj hk
      refine ⟨fun e => ?_, fun e => ?_⟩
      · subst e
        rw [h4] at hg
        cases hg
      · subst e
        rw [h4] at hb
        cases hb
theorem St.kept {B : Nat} {w w' : World} {S : Nat → Prop} {g bm : Nat} {v : Value} {l : List E} {r : Bool} (h : St B w g bm v l r) (hk : Kept w w' S) (h1 : ¬ S g) (h2 : ¬ S bm) (h3 : ∀ k, v.ownBlock = some k → ¬ S k) : St B w' g bm v l r :=
  ⟨(hk.2 g h.lt.1 h1).trans h.blk, row_of h.row (fun k e => hk.2 k (h.lt.2.2.1 k e) (h3 k e)), map_of h.map (hk.2 bm h.lt.2.1 h2), h.g0, h.bm0⟩
set_option maxRecDepth 100000 in
set_option maxHeartbeats 2000000 in
theorem new_any (B : Nat) (w0 w : World) (hB : Below B w0 w) (hb : B ≤ w.heap.size) : Calls Try.prog 6 #[] w fun e w' => ∃ g bm, e = .returned (.pointer (some ⟨g, 0, none⟩)) ∧ St B w' g bm (.slice none 0 0) [] false ∧ Below B w0 w' ∧ Below w.heap.size w w' ∧ w.heap.size ≤ g ∧ w.heap.size ≤ bm := by
  have hmm := @run_makeMap Try.prog
  go_enter Try.func6, Try.ntmps6
  go_wp2
  go_ret
  have h1 := World.ownsMap_made (H := Unit) w Try.prog 9 (plainElem Try.prog 3)
  have hs : (w.alloc (Obj.map #[] 0)).heap.size = w.heap.size + 1 := by show (w.heap.push _).size = _; simp
  have b1 : Below w.heap.size w (w.alloc (Obj.map #[] 0)) := (Below.refl _ _).alloc (Nat.le_refl _) _
  have b2 : Below w.heap.size w ((w.alloc (Obj.map #[] 0)).alloc (Obj.cells #[Value.slice none 0 0, Value.map (some w.heap.size), Value.bool false] 57)) := b1.alloc (by omega) _
  refine ⟨w.heap.size + 1, w.heap.size, rfl, ⟨?_, ⟨rfl, .inl ⟨rfl, rfl⟩⟩, ?_, by omega, hb⟩, ?_, b2, by omega, Nat.le_refl _⟩
  · have := (MapKept.heap_alloc (w.alloc (Obj.map #[] 0)) (Obj.cells #[Value.slice none 0 0, Value.map (some w.heap.size), Value.bool false] 57)).1
    rw [hs] at this
    exact this
  · exact h1.alloc _
  · exact hB.trans (b2.mono hb)
theorem len_any {B : Nat} {w : World} {g bm : Nat} {v : Value} {l : List E} {r : Bool} (h : St B w g bm v l r) : Calls Try.prog 10 #[.pointer (some ⟨g, 0, none⟩)] w fun e w' => e = .returned (.int .i64 (l.length : Int)) ∧ w' = w := by
  have hb := h.blk
  have c0 : w.cell? ⟨g, 0, none⟩ = some v := by simp [World.cell?, hb]
  obtain ⟨a, c, rfl⟩ : ∃ a c, v = .slice a l.length c := by
    rcases h.row.2 with ⟨h1, h2⟩ | ⟨g', cap, cur, h1, _⟩
    · rw [h2]; exact ⟨_, _, h1⟩
    · exact ⟨_, _, h1⟩
  go_enter Try.func10, Try.ntmps10
  go_wp2
  go_ret
  exact ⟨rfl, rfl⟩
theorem refuse_any {B : Nat} {w w0 : World} {g bm : Nat} {v : Value} {l : List E} {r : Bool} (h : St B w g bm v l r) (hB : Below B w0 w) (x : Bool) : Calls Try.prog 14 #[.pointer (some ⟨g, 0, none⟩), .bool x] w fun e w' => e = .returned (.tuple #[]) ∧ St B w' g bm v l x ∧ Below B w0 w' ∧ Kept w w' (· = g) := by
  have hb := h.blk
  have c2 : w.cell? ⟨g, 2, none⟩ = some (.bool r) := by simp [World.cell?, hb]
  have f2 : w.frozen? ⟨g, 2, none⟩ = false := by simp [World.frozen?, hb]
  go_enter Try.func14, Try.ntmps14
  go_wp2
  go_end0
  have fr : ∀ k, k ≠ g → (w.setCell ⟨g, 2, none⟩ (Value.bool x)).heap[k]? = w.heap[k]? := fun k hk => Below.heap_setCell w ⟨g, 2, none⟩ _ k hk
  have hlt := h.lt
  refine ⟨rfl, ⟨?_, row_of h.row (fun k e => fr k (hlt.2.2.2.2 k e).1), map_of h.map (fr bm (Ne.symm hlt.2.2.2.1)), h.g0, h.bm0⟩, hB.setCell h.g0 _, ?_⟩
  · have := blk_set hb 2 (Value.bool x)
    simpa using this
  · exact (Kept.refl w (· = g)).setCell (Or.inl rfl) _
end Go.Proofs.Ytbifmgenljjleaa.Sp
