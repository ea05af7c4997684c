/- The spool: All (a clone of its row). -/
import Derived.Test.YtbifmgenljjleaaSpD
import Derived.Lib.SliceRun
namespace Go.Proofs.Ytbifmgenljjleaa.Sp
open Go Go.RowKit Go.Maps Go.WideMaps Go.Proofs.YtbifmgenljjleaaW.PrintWords

set_option maxRecDepth 100000 in
set_option maxHeartbeats 4000000 in
theorem clone_some {w : World} {l : List E} {g c : Nat} (hl : l.length < 1000000) (hr : ∀ k u, (flat l)[k]? = some u → w.cell? ((⟨g, 0, none⟩ : Addr).add k) = some u) (_hc : l.length ≤ c) :
    Calls Try.prog 20 #[.slice (some ⟨g, 0, none⟩) l.length c] w fun r w' => ∃ v', r = .returned v' ∧ Below w.heap.size w w' ∧ w'.ownsRow w.heap.size 34 4 v' l.length (flat l) := by
  obtain ⟨i0, hi0, hz0, hz1, hz2⟩ := info_parts info34x
  have hq : (binOp .eql 32 (.slice (some ⟨g, 0, none⟩) l.length c) (.slice none 0 0)).run Try.prog w = .ok (.bool false) w := Lib.run_eql_slice_nil w 32 34 _ _ _ _ _ Try.underlying32
  have hs : (w.alloc (.cells #[] 34)).heap.size = w.heap.size + 1 := by simp
  have own0 : (w.alloc (.cells #[] 34)).ownsRow w.heap.size 34 4 (.slice (some ⟨w.heap.size, 0, none⟩) 0 0) 0 [] := ⟨rfl, .inr ⟨w.heap.size, 0, #[], rfl, Nat.le_refl _, heap_alloc_new w _, by omega, by unfold maxLen; omega, by rfl, by rfl⟩⟩
  have hnews : ∀ k u, (flat l)[k]? = some u → (w.alloc (.cells #[] 34)).cell? ((⟨g, 0, none⟩ : Addr).add k) = some u := fun k u hu => by
    have h1 := hr k u hu
    have hlt := World.block_lt_of_cell? w _ h1
    exact (World.cell?_of_block (Below.heap_alloc w _ _ hlt)).trans h1
  have hone : ∀ u ∈ flat l, u.oneCell' = true := fun u hu => by
    obtain ⟨e, _, he⟩ := List.mem_flatMap.1 hu
    simp [E.cells] at he
    rcases he with rfl | rfl | rfl | rfl <;> rfl
  go_enter Try.func20, Try.ntmps20
  go_wp2_with (at_builtin; refine wpList_append_own_at _ rfl _ _ _ rfl w.heap.size 34 i0 _ 4 64 Try.underlying32 hi0 hz0 hz1 hz2 rfl (by omega) (.slice (some ⟨w.heap.size, 0, none⟩) 0 0) 0 [] rfl own0 ⟨g, 0, none⟩ l.length c (flat l) rfl (flat_len l) hnews hone (by unfold maxLen; omega) (by omega) (by omega) ?_; intro v1 w1 hown1 hgrow hnil hat)
  go_ret
  have hb0 : Below w.heap.size w (w.alloc (.cells #[] 34)) := (Below.refl _ _).alloc (Nat.le_refl _) _
  have hown2 : w1.ownsRow w.heap.size 34 4 v1 l.length (flat l) := by simpa using hown1
  exact ⟨v1, rfl, hb0.grown hgrow (by omega) (fun k hk => by have : w.heap.size = k := Option.some.inj hk; omega), hown2⟩
set_option maxRecDepth 100000 in
set_option maxHeartbeats 4000000 in
theorem clone_none {w : World} : Calls Try.prog 20 #[.slice none 0 0] w fun r w' => r = .returned (.slice none 0 0) ∧ w' = w := by
  have hq : (binOp .eql 32 (.slice none 0 0) (.slice none 0 0)).run Try.prog w = .ok (.bool true) w := Lib.run_eql_slice_nil w 32 34 none 0 0 0 0 Try.underlying32
  go_enter Try.func20, Try.ntmps20
  go_wp2
  go_ret
  exact ⟨rfl, rfl⟩
theorem clone_any {B : Nat} {w : World} {v : Value} {l : List E} (hl : l.length < 1000000) (h : w.ownsRow B 34 4 v l.length (flat l)) :
    Calls Try.prog 20 #[v] w fun r w' => ∃ v', r = .returned v' ∧ Below w.heap.size w w' ∧ w'.ownsRow w.heap.size 34 4 v' l.length (flat l) := by
  rcases h.2 with ⟨h2, h1⟩ | ⟨g, cap, cur, h2, h3, h4, h5, h6, h7, h8⟩
  · subst h2
    refine clone_none.mono fun r w' hr => ?_
    obtain ⟨rfl, rfl⟩ := hr
    exact ⟨_, rfl, Below.refl _ _, ⟨h.1, .inl ⟨rfl, h1⟩⟩⟩
  · have hc := h.cells (g := g) (by rw [h2]; rfl)
    rw [h2]
    exact clone_some hl hc h5
set_option maxRecDepth 100000 in
set_option maxHeartbeats 4000000 in
theorem all_any {B : Nat} {w : World} {g bm : Nat} {v : Value} {l : List E} {r : Bool} (hl : l.length < 1000000) (h : St B w g bm v l r) :
    Calls Try.prog 8 #[.pointer (some ⟨g, 0, none⟩)] w fun x w' => ∃ v', x = .returned v' ∧ Below w.heap.size w w' ∧ w'.ownsRow w.heap.size 34 4 v' l.length (flat l) := by
  have hb := h.blk
  have c0 : w.cell? ⟨g, 0, none⟩ = some v := by simp [World.cell?, hb]
  go_enter Try.func8, Try.ntmps8
  go_wp2_with (go_at_call 20; refine (clone_any hl h.row).mono ?_; rintro e w' ⟨v', rfl, hbl, hown⟩)
  go_ret
  exact ⟨v', rfl, hbl, hown⟩
/-- A mail of the document, as the program has it. -/
theorem to_any {w : World} (e : E) : Calls Try.prog 13 #[.agg #[.string e.key, .string e.fr, .string e.dest, .string e.text]] w fun x w' => x = .returned (.agg #[.string e.key, .string e.fr, .string e.dest, .string e.text]) ∧ Below w.heap.size w w' := by
  have hs : (w.alloc (Obj.cells #[.string e.key, .string e.fr, .string e.dest, .string e.text] 29)).heap.size = w.heap.size + 1 := by simp
  have hb := (MapKept.heap_alloc (w.alloc (Obj.cells #[.string e.key, .string e.fr, .string e.dest, .string e.text] 29)) (Obj.cells #[.string e.key, .string e.fr, .string e.dest, .string e.text] 34)).1
  rw [hs] at hb
  go_enter Try.func13, Try.ntmps13
  go_wp2
  refine bodyPost_ret (results_cell_row rfl _ _ (w.heap.size + 1) 34 #[.string e.key, .string e.fr, .string e.dest, .string e.text] (0, 0) _ rfl hb Try.underlying34 rfl (by kernel_rfl)) rfl ?_
  exact ⟨rfl, ((Below.refl _ _).alloc (Nat.le_refl _) _).alloc (by simp) _⟩
end Go.Proofs.Ytbifmgenljjleaa.Sp
