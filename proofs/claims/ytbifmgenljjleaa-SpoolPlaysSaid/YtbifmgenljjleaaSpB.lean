/- The spool: Find. -/
import Derived.Test.YtbifmgenljjleaaSpA
import Derived.Maps.Views
namespace Go.Proofs.Ytbifmgenljjleaa.Sp
open Go Go.RowKit Go.Maps Go.WideMaps Go.Proofs.YtbifmgenljjleaaW.PrintWords

theorem mapD_snoc (l : List E) (e : E) : mapD (l ++ [e]) = (mapD l).put (.string e.key.data.toList) (.lit (.int .i64 (l.length : Int))) := by
  unfold mapD
  rw [List.zipIdx_append, List.foldl_append]
  simp
theorem slice_of {B : Nat} {w : World} {v : Value} {n : Nat} {xs : List Value} (h : w.ownsRow B 34 4 v n xs) : ∃ a c, v = .slice a n c ∧ n ≤ c := by
  rcases h.2 with ⟨h1, h2⟩ | ⟨g', cap, cur, h1, _, _, h4, _⟩
  · rw [h2]; exact ⟨_, _, h1, Nat.le_refl _⟩
  · exact ⟨_, _, h1, h4⟩
theorem flat_len (l : List E) : (flat l).length = l.length * 4 := by
  induction l with
  | nil => rfl
  | cons e l ih =>
    show (e.cells ++ flat l).length = _
    rw [List.length_append, ih, List.length_cons]
    show 4 + _ = _
    omega
theorem flat_get : ∀ (l : List E) (i j : Nat) (hi : i < l.length), j < 4 → (flat l)[i * 4 + j]? = (l[i].cells)[j]?
  | e :: l, 0, j, _, hj => by
    show (e.cells ++ flat l)[0 * 4 + j]? = _
    rw [List.getElem?_append_left (by show 0 * 4 + j < 4; omega)]
    simp
  | e :: l, i + 1, j, hi, hj => by
    show (e.cells ++ flat l)[(i + 1) * 4 + j]? = _
    rw [List.getElem?_append_right (by show 4 ≤ (i + 1) * 4 + j; omega), show (i + 1) * 4 + j - e.cells.length = i * 4 + j by show _ - 4 = _; omega]
    exact flat_get l i j (by simpa using hi) hj
set_option maxRecDepth 100000 in
set_option maxHeartbeats 2000000 in
theorem find_none {B : Nat} {w : World} {g bm : Nat} {v : Value} {l : List E} {r : Bool} (h : St B w g bm v l r) (key : ByteArray) (hk : key.size ≤ maxLen) (hn : has (mapD l) (.string key.data.toList) = false) :
    Calls Try.prog 9 #[.pointer (some ⟨g, 0, none⟩), .string key] w fun e w' => e = .returned (.tuple #[.agg #[.string ⟨#[]⟩, .string ⟨#[]⟩, .string ⟨#[]⟩, .string ⟨#[]⟩], .bool false]) ∧ Below w.heap.size w w' := by
  have hb := h.blk
  have hlt := h.lt
  obtain ⟨a, c, rfl, _⟩ := slice_of h.row
  have hkey := keyOf_string_mk Try.underlying9 hk
  have c0 : ∀ o, (w.alloc o).cell? ⟨g, 0, none⟩ = some (.slice a l.length c) := fun o => by
    have := Below.heap_alloc w o g hlt.1
    simp [World.cell?, this, hb]
  have c1 : ∀ o, (w.alloc o).cell? ⟨g, 1, none⟩ = some (.map (some bm)) := fun o => by
    have := Below.heap_alloc w o g hlt.1
    simp [World.cell?, this, hb]
  go_enter Try.func9, Try.ntmps9
  go_wp2_with (first
    | (at_lookup; refine wpList_lookup_own_ok_int _ rfl _ _ 55 rfl 9 3 .i64 law9 Try.underlying55 Try.underlying3 (zero3 _) bm l.length (mapD l) rfl (h.map.alloc _) _ _ rfl hkey ?_; intro c hat hwc; rw [hn])
    | go_in)
  refine bodyPost_ret (results_ct rfl _ _ w.heap.size 34 #[.string ⟨#[]⟩, .string ⟨#[]⟩, .string ⟨#[]⟩, .string ⟨#[]⟩] (0, 0) _ rfl (MapKept.heap_alloc w _).1 Try.underlying34 rfl (by kernel_rfl)) rfl ?_
  exact ⟨rfl, (Below.refl _ _).alloc (Nat.le_refl _) _⟩
set_option maxRecDepth 100000 in
set_option maxHeartbeats 2000000 in
theorem find_some {B : Nat} {w : World} {g bm : Nat} {v : Value} {l : List E} {r : Bool} (h : St B w g bm v l r) (key : ByteArray) (hk : key.size ≤ maxLen) (hn : has (mapD l) (.string key.data.toList) = true) (i : Nat) (hi : i < l.length)
    (ha : (mapD l).atKey (.string key.data.toList) (.lit (.int .i64 0)) = .lit (.int .i64 (i : Int))) :
    Calls Try.prog 9 #[.pointer (some ⟨g, 0, none⟩), .string key] w fun e w' => e = .returned (.tuple #[.agg #[.string l[i].key, .string l[i].fr, .string l[i].dest, .string l[i].text], .bool true]) ∧ Below w.heap.size w w' := by
  have hb := h.blk
  have hlt := h.lt
  obtain ⟨gb, cap, rfl⟩ : ∃ gb cap, v = .slice (some ⟨gb, 0, none⟩) l.length cap := by
    rcases h.row.2 with ⟨h1, h2⟩ | ⟨g', cap, cur, h1, _⟩
    · omega
    · exact ⟨_, _, h1⟩
  have hkey := keyOf_string_mk Try.underlying9 hk
  have c0 : ∀ o, (w.alloc o).cell? ⟨g, 0, none⟩ = some (.slice (some ⟨gb, 0, none⟩) l.length cap) := fun o => by
    have := Below.heap_alloc w o g hlt.1
    simp [World.cell?, this, hb]
  have c1 : ∀ o, (w.alloc o).cell? ⟨g, 1, none⟩ = some (.map (some bm)) := fun o => by
    have := Below.heap_alloc w o g hlt.1
    simp [World.cell?, this, hb]
  have row : ∀ o, (w.alloc o).ownsRow B 34 4 (.slice (some ⟨gb, 0, none⟩) l.length cap) l.length (flat l) := fun o => h.row.alloc o
  have cj : ∀ o j u, (l[i].cells)[j]? = some u → j < 4 → (w.alloc o).cell? ⟨gb, i * 4 + j, none⟩ = some u := fun o j u hu hj => by
    rw [(row o).cellAt (i * 4 + j) (by omega), flat_get l i j hi hj, hu]
  have x0 : ∀ o, (w.alloc o).cell? ⟨gb, i * 4, none⟩ = some (.string l[i].key) := fun o => cj o 0 _ rfl (by decide)
  have x1 : ∀ o, (w.alloc o).cell? ⟨gb, i * 4 + 1, none⟩ = some (.string l[i].fr) := fun o => cj o 1 _ rfl (by decide)
  have x2 : ∀ o, (w.alloc o).cell? ⟨gb, i * 4 + 2, none⟩ = some (.string l[i].dest) := fun o => cj o 2 _ rfl (by decide)
  have x3 : ∀ o, (w.alloc o).cell? ⟨gb, i * 4 + 3, none⟩ = some (.string l[i].text) := fun o => cj o 3 _ rfl (by decide)
  have i0 : (0 : Int) ≤ (i : Int) := by omega
  have i1 : (i : Int) < (l.length : Int) := by omega
  go_enter Try.func9, Try.ntmps9
  go_wp2_with (first
    | (at_lookup; refine wpList_lookup_own_ok_int _ rfl _ _ 55 rfl 9 3 .i64 law9 Try.underlying55 Try.underlying3 (zero3 _) bm l.length (mapD l) rfl (h.map.alloc _) _ _ rfl hkey ?_; intro c hat hwc; rw [hn]; (obtain rfl : (i : Int) = c := by rw [ha] at hat; simpa using hat))
    | go_in)
  refine bodyPost_ret (results_ct rfl _ _ w.heap.size 34 #[.string l[i].key, .string l[i].fr, .string l[i].dest, .string l[i].text] (0, 0) _ rfl (MapKept.heap_alloc w _).1 Try.underlying34 rfl (by kernel_rfl)) rfl ?_
  exact ⟨rfl, (Below.refl _ _).alloc (Nat.le_refl _) _⟩
end Go.Proofs.Ytbifmgenljjleaa.Sp
