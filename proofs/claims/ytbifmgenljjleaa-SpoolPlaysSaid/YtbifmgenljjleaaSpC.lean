/- The spool: Put. -/
import Derived.Test.YtbifmgenljjleaaSpB
import Derived.Deep.RegionHeld3
import Derived.Deep.AppendLies
import Derived.Deep.RegionLaw
import Derived.Lib.Strings
namespace Go.Proofs.Ytbifmgenljjleaa.Sp
open Go Go.RowKit Go.Maps Go.WideMaps Go.Proofs.YtbifmgenljjleaaW.PrintWords

set_option maxRecDepth 100000 in
set_option maxHeartbeats 4000000 in
theorem put_refused {B : Nat} {w : World} {g bm : Nat} {v : Value} {l : List E} (h : St B w g bm v l true) (e : E) :
    Calls Try.prog 12 #[.pointer (some ⟨g, 0, none⟩), .agg #[.string e.key, .string e.fr, .string e.dest, .string e.text]] w fun r w' => r = .returned (.int .i64 430) ∧ Below w.heap.size w w' := by
  have hb := h.blk
  have hlt := h.lt
  have c2 : ∀ o, (w.alloc o).cell? ⟨g, 2, none⟩ = some (.bool true) := fun o => by
    have := Below.heap_alloc w o g hlt.1
    simp [World.cell?, this, hb]
  go_enter Try.func12, Try.ntmps12
  go_wp2
  go_ret
  exact ⟨rfl, (Below.refl _ _).alloc (Nat.le_refl _) _⟩
set_option maxRecDepth 100000 in
set_option maxHeartbeats 4000000 in
theorem put_empty {B : Nat} {w : World} {g bm : Nat} {v : Value} {l : List E} (h : St B w g bm v l false) (e : E) (he : e.key = ⟨#[]⟩) :
    Calls Try.prog 12 #[.pointer (some ⟨g, 0, none⟩), .agg #[.string e.key, .string e.fr, .string e.dest, .string e.text]] w fun r w' => r = .returned (.int .i64 3) ∧ Below w.heap.size w w' := by
  have hb := h.blk
  have hlt := h.lt
  have c2 : ∀ o, (w.alloc o).cell? ⟨g, 2, none⟩ = some (.bool false) := fun o => by
    have := Below.heap_alloc w o g hlt.1
    simp [World.cell?, this, hb]
  have h0 : (⟨#[]⟩ : ByteArray).toList = [] := by rw [Lib.toList_data]
  rw [he]
  go_enter Try.func12, Try.ntmps12
  go_wp2
  go_ret
  exact ⟨rfl, (Below.refl _ _).alloc (Nat.le_refl _) _⟩
set_option maxRecDepth 100000 in
set_option maxHeartbeats 4000000 in
theorem put_there {B : Nat} {w : World} {g bm : Nat} {v : Value} {l : List E} (h : St B w g bm v l false) (e : E) (he : (e.key.toList == ([] : List UInt8)) = false) (hk : e.key.size ≤ maxLen) (hn : has (mapD l) (.string e.key.data.toList) = true) :
    Calls Try.prog 12 #[.pointer (some ⟨g, 0, none⟩), .agg #[.string e.key, .string e.fr, .string e.dest, .string e.text]] w fun r w' => r = .returned (.int .i64 0) ∧ Below w.heap.size w w' := by
  have hb := h.blk
  have hlt := h.lt
  have hkey := keyOf_string_mk Try.underlying9 hk
  have c1 : ∀ o, (w.alloc o).cell? ⟨g, 1, none⟩ = some (.map (some bm)) := fun o => by
    have := Below.heap_alloc w o g hlt.1
    simp [World.cell?, this, hb]
  have c2 : ∀ o, (w.alloc o).cell? ⟨g, 2, none⟩ = some (.bool false) := fun o => by
    have := Below.heap_alloc w o g hlt.1
    simp [World.cell?, this, hb]
  go_enter Try.func12, Try.ntmps12
  go_wp2
  have hm : ∀ o, ((w.alloc o).drew).ownsMap Try.prog 9 (plainElem Try.prog 3) bm l.length (mapD l) := fun o => (h.map.alloc o).drew
  obtain ⟨lv, ps, hrun, hlv⟩ := (hm (Obj.cells #[Value.string e.key, Value.string e.fr, Value.string e.dest, Value.string e.text] 34)).look_ok law9 Try.underlying55 (zero3 _) (plainElem_int (H := Unit) (P := Try.prog) Try.underlying3 (a := 0) (q := .i64) (by decide)) hkey
  rw [hn] at hrun
  obtain ⟨c, rfl, _, hwc⟩ := plainElem_int_inv Try.underlying3 hlv
  go_region_held3 (fun w' => w'.cell? ⟨g, 1, none⟩ = some (.map (some bm)) ∧ w'.cell? ⟨w.heap.size, 0, none⟩ = some (.string e.key)) (go_keep) (fail)
  all_goals go_wp2
  go_ret
  exact ⟨rfl, ((Below.refl _ _).alloc (Nat.le_refl _) _).drew⟩
theorem info34x : (Try.prog.info? 34).map (fun i => (i.zero, i.size, i.bytes)) = some (some (.agg #[.string ⟨#[]⟩, .string ⟨#[]⟩, .string ⟨#[]⟩, .string ⟨#[]⟩]), 4, 64) := by kernel_rfl
set_option maxRecDepth 100000 in
set_option maxHeartbeats 4000000 in
theorem put_new {B : Nat} {w : World} {g bm : Nat} {v : Value} {l : List E} (h : St B w g bm v l false) (hB : B ≤ w.heap.size) (e : E) (he : (e.key.toList == ([] : List UInt8)) = false) (hk : e.key.size ≤ maxLen) (hn : has (mapD l) (.string e.key.data.toList) = false) (hl : l.length < 1000000) :
    Calls Try.prog 12 #[.pointer (some ⟨g, 0, none⟩), .agg #[.string e.key, .string e.fr, .string e.dest, .string e.text]] w fun r w' => r = .returned (.int .i64 0) ∧ ∃ v', St B w' g bm v' (l ++ [e]) false ∧ (w'.os = w.os ∧ w'.tape = w.tape ∧ w'.output = w.output) ∧ Kept w w' (fun k => k = g ∨ k = bm ∨ v.ownBlock = some k) ∧ ∀ k, v'.ownBlock = some k → v.ownBlock = some k ∨ w.heap.size ≤ k := by
  have hb := h.blk
  have hlt := h.lt
  obtain ⟨a, cp, rfl, _⟩ := slice_of h.row
  have hkey := keyOf_string_mk Try.underlying9 hk
  have c0 : ∀ o, (w.alloc o).cell? ⟨g, 0, none⟩ = some (.slice a l.length cp) := fun o => by
    have := Below.heap_alloc w o g hlt.1
    simp [World.cell?, this, hb]
  have c1 : ∀ o, (w.alloc o).cell? ⟨g, 1, none⟩ = some (.map (some bm)) := fun o => by
    have := Below.heap_alloc w o g hlt.1
    simp [World.cell?, this, hb]
  have c2 : ∀ o, (w.alloc o).cell? ⟨g, 2, none⟩ = some (.bool false) := fun o => by
    have := Below.heap_alloc w o g hlt.1
    simp [World.cell?, this, hb]
  have hm : ∀ o, ((w.alloc o).drew).ownsMap Try.prog 9 (plainElem Try.prog 3) bm l.length (mapD l) := fun o => (h.map.alloc o).drew
  go_enter Try.func12, Try.ntmps12
  go_wp2
  obtain ⟨lv, ps, hrun, hlv⟩ := (hm (Obj.cells #[Value.string e.key, Value.string e.fr, Value.string e.dest, Value.string e.text] 34)).look_ok law9 Try.underlying55 (zero3 _) (plainElem_int (H := Unit) (P := Try.prog) Try.underlying3 (a := 0) (q := .i64) (by decide)) hkey
  rw [hn] at hrun
  obtain ⟨c, rfl, _, hwc⟩ := plainElem_int_inv Try.underlying3 hlv
  go_region_held3 (fun w' => w'.cell? ⟨g, 1, none⟩ = some (.map (some bm)) ∧ w'.cell? ⟨w.heap.size, 0, none⟩ = some (.string e.key)) (go_keep) (fail)
  all_goals go_wp2
  have hm2 := (hm (Obj.cells #[Value.string e.key, Value.string e.fr, Value.string e.dest, Value.string e.text] 34)).drew
  have hlw : (Lit.int .i64 (l.length : Int)).wf = true := by
    have h1 : wrap64 (l.length : Int) = (l.length : Int) := by unfold wrap64; omega
    rw [← h1]
    exact wrap64_wf _
  obtain ⟨W3, hrun3, hm3, hg3⟩ := hm2.update law9 Try.underlying55 (by unfold maxLen; omega) hkey (plainElem_int (H := Unit) (P := Try.prog) Try.underlying3 (a := (l.length : Int)) (q := .i64) hlw)
  have hsz : (w.alloc (Obj.cells #[Value.string e.key, Value.string e.fr, Value.string e.dest, Value.string e.text] 34)).drew.drew.heap.size = w.heap.size + 1 := by show (w.heap.push _).size = _; simp
  have old : ∀ k, k < w.heap.size + 1 → k ≠ bm → W3.heap[k]? = (w.alloc (Obj.cells #[Value.string e.key, Value.string e.fr, Value.string e.dest, Value.string e.text] 34)).heap[k]? := fun k hk hne => hg3.block k (by rw [hsz]; exact hk) (fun e => hne (Option.some.inj e))
  have d0 : W3.cell? ⟨g, 0, none⟩ = some (.slice a l.length cp) := (World.cell?_of_block (old g (by omega) hlt.2.2.2.1)).trans (c0 _)
  have d1 : W3.cell? ⟨g, 1, none⟩ = some (.map (some bm)) := (World.cell?_of_block (old g (by omega) hlt.2.2.2.1)).trans (c1 _)
  have d2 : W3.cell? ⟨w.heap.size, 0, none⟩ = some (.string e.key) := (World.cell?_of_block (old w.heap.size (by omega) (by omega))).trans ((blk_cell (MapKept.heap_alloc w (Obj.cells #[Value.string e.key, Value.string e.fr, Value.string e.dest, Value.string e.text] 34)).1 0).trans rfl)
  have d3 : W3.cell? ⟨w.heap.size, 1, none⟩ = some (.string e.fr) := (World.cell?_of_block (old w.heap.size (by omega) (by omega))).trans ((blk_cell (MapKept.heap_alloc w (Obj.cells #[Value.string e.key, Value.string e.fr, Value.string e.dest, Value.string e.text] 34)).1 1).trans rfl)
  have d4 : W3.cell? ⟨w.heap.size, 2, none⟩ = some (.string e.dest) := (World.cell?_of_block (old w.heap.size (by omega) (by omega))).trans ((blk_cell (MapKept.heap_alloc w (Obj.cells #[Value.string e.key, Value.string e.fr, Value.string e.dest, Value.string e.text] 34)).1 2).trans rfl)
  have d5 : W3.cell? ⟨w.heap.size, 3, none⟩ = some (.string e.text) := (World.cell?_of_block (old w.heap.size (by omega) (by omega))).trans ((blk_cell (MapKept.heap_alloc w (Obj.cells #[Value.string e.key, Value.string e.fr, Value.string e.dest, Value.string e.text] 34)).1 3).trans rfl)
  go_region_held3 (fun w' => w'.cell? ⟨g, 1, none⟩ = some (.map (some bm)) ∧ w'.cell? ⟨g, 0, none⟩ = some (.slice a l.length cp) ∧ w'.cell? ⟨w.heap.size, 0, none⟩ = some (.string e.key)) (go_keep) (fail)
  all_goals go_wp2
  obtain ⟨i0, hi0, hz0, hz1, hz2⟩ := info_parts info34x
  have ho : ∀ k, (Value.slice a l.length cp).ownBlock = some k → W3.heap[k]? = w.heap[k]? := fun k hk => by
    have h1 := hlt.2.2.1 k hk
    rw [old k (by omega) (hlt.2.2.2.2 k hk).2]
    exact Below.heap_alloc w _ k h1
  have row3 := row_of h.row ho
  have sz3 : w.heap.size + 1 ≤ W3.heap.size := by rw [← hsz]; exact hg3.size
  have F0 : ∀ o, ((W3.alloc o).drew).frozen? ⟨g, 0, none⟩ = false := fun o => by
    have e1 : ((W3.alloc o).drew).heap[g]? = w.heap[g]? := (Below.heap_alloc W3 o g (by omega)).trans ((old g (by omega) hlt.2.2.2.1).trans (Below.heap_alloc w _ g hlt.1))
    simp [World.frozen?, e1, hb]
  have D0 : ∀ o, ((W3.alloc o).drew).cell? ⟨g, 0, none⟩ = some (.slice a l.length cp) := fun o => by
    have e1 : ((W3.alloc o).drew).heap[g]? = w.heap[g]? := (Below.heap_alloc W3 o g (by omega)).trans ((old g (by omega) hlt.2.2.2.1).trans (Below.heap_alloc w _ g hlt.1))
    simp [World.cell?, e1, hb]
  have N0 : ∀ o, ((W3.alloc o).drew).heap[w.heap.size]? = W3.heap[w.heap.size]? := fun o => Below.heap_alloc W3 o _ (by omega)
  have D1 : ∀ o, ((W3.alloc o).drew).cell? ⟨w.heap.size, 0, none⟩ = some (.string e.key) := fun o => (World.cell?_of_block (N0 o)).trans d2
  have D2 : ∀ o, ((W3.alloc o).drew).cell? ⟨w.heap.size, 1, none⟩ = some (.string e.fr) := fun o => (World.cell?_of_block (N0 o)).trans d3
  have D3 : ∀ o, ((W3.alloc o).drew).cell? ⟨w.heap.size, 2, none⟩ = some (.string e.dest) := fun o => (World.cell?_of_block (N0 o)).trans d4
  have D4 : ∀ o, ((W3.alloc o).drew).cell? ⟨w.heap.size, 3, none⟩ = some (.string e.text) := fun o => (World.cell?_of_block (N0 o)).trans d5
  have ag : (Value.slice a l.length cp).ownBlock ≠ some g := fun e => (hlt.2.2.2.2 g e).1 rfl
  have an : (Value.slice a l.length cp).ownBlock ≠ some w.heap.size := fun e => Nat.lt_irrefl _ (hlt.2.2.1 _ e)
  go_region_law
    ((refine step_append_lies _ (by rfl) _ _ _ (by rfl) B 34 i0 _ 4 64 Try.underlying32 hi0 hz0 hz1 hz2 rfl (by omega) (.slice a l.length cp) l.length (flat l) (by rfl) ((row3.alloc _).drew)
        ⟨W3.heap.size, 0, none⟩ 1 1 [.string e.key, .string e.fr, .string e.dest, .string e.text] (by rfl) (by rfl) (World.news_of_block (cs := #[.string e.key, .string e.fr, .string e.dest, .string e.text]) (t := 34) (fr := (0, 0)) (heap_alloc_new W3 _)) (by simp [Value.oneCell'])
        (by omega) (by unfold maxLen; omega) (by omega) (by simp; omega) (W3.heap.size + 1) (by simp) ?_; intro gg cap w1 hown1 hgrow hat hlt1; have hf1 := (hgrow.frozen_far ⟨g, 0, none⟩ (by simp; omega) (Ne.symm ag)).trans (F0 _); have hc1 := (hgrow.cell_far ⟨g, 0, none⟩ (by simp; omega) (Ne.symm ag)).trans (D0 _); have hc2 := (hgrow.cell_far ⟨w.heap.size, 0, none⟩ (by simp; omega) (Ne.symm an)).trans (D1 _); have hc3 := (hgrow.cell_far ⟨w.heap.size, 1, none⟩ (by simp; omega) (Ne.symm an)).trans (D2 _); have hc4 := (hgrow.cell_far ⟨w.heap.size, 2, none⟩ (by simp; omega) (Ne.symm an)).trans (D3 _); have hc5 := (hgrow.cell_far ⟨w.heap.size, 3, none⟩ (by simp; omega) (Ne.symm an)).trans (D4 _)))
  all_goals go_wp2
  all_goals go_ret
  all_goals
    have fr : ∀ k, k < w.heap.size → k ≠ g → k ≠ bm → (∀ b, (Value.slice a l.length cp).ownBlock = some b → k ≠ b) → (w1.setCell ⟨g, 0, none⟩ (.slice (some ⟨gg, 0, none⟩) (l.length + 1) cap)).heap[k]? = w.heap[k]? := fun k hk h1 h2 h3 => by
      rw [Below.heap_setCell w1 ⟨g, 0, none⟩ _ k h1, hgrow.block k (by simp; omega) (fun e => h3 k e.symm rfl)]
      exact (Below.heap_alloc W3 _ k (by omega)).trans ((old k (by omega) h2).trans (Below.heap_alloc w _ k hk))
    have bg : w1.heap[g]? = some (.cells #[.slice a l.length cp, .map (some bm), .bool false] 57 (0, 0)) := by
      rw [hgrow.block g (by simp; omega) (Ne.symm ag)]
      exact ((Below.heap_alloc W3 _ g (by omega)).trans ((old g (by omega) hlt.2.2.2.1).trans (Below.heap_alloc w _ g hlt.1))).trans hb
    have bb : w1.heap[bm]? = W3.heap[bm]? := by
      rw [hgrow.block bm (by simp; omega) (fun e => (hlt.2.2.2.2 bm e.symm).2 rfl)]
      exact Below.heap_alloc W3 _ bm (by omega)
    have ng : gg ≠ g := by
      rcases hat with h1 | h1
      · intro e1; rw [e1] at h1; exact ag h1
      · omega
    refine ⟨rfl, .slice (some ⟨gg, 0, none⟩) (l.length + 1) cap, ⟨?_, ?_, ?_, h.g0, h.bm0⟩, ⟨(hgrow.os).trans hg3.os, (hgrow.tape).trans hg3.tape, (hgrow.output).trans hg3.output⟩, ⟨?_, fun k hk hS => fr k hk (fun e1 => hS (.inl e1)) (fun e1 => hS (.inr (.inl e1))) (fun b hb1 e1 => hS (.inr (.inr (by rw [e1]; exact hb1))))⟩, ?_⟩
    · have := blk_set bg 0 (.slice (some ⟨gg, 0, none⟩) (l.length + 1) cap)
      simpa using this
    · have hf : flat (l ++ [e]) = flat l ++ [.string e.key, .string e.fr, .string e.dest, .string e.text] := by simp [flat, E.cells]
      rw [hf, List.length_append]
      exact row_of hown1 (fun k hk => Below.heap_setCell w1 ⟨g, 0, none⟩ _ k (fun e1 => ng ((Option.some.inj hk).trans e1)))
    · rw [mapD_snoc, List.length_append]
      exact map_of hm3 ((Below.heap_setCell w1 ⟨g, 0, none⟩ _ bm (Ne.symm hlt.2.2.2.1)).trans bb)
    · have z1 : w1.heap.size = (w1.setCell ⟨g, 0, none⟩ (.slice (some ⟨gg, 0, none⟩) (l.length + 1) cap)).heap.size := by simp
      have z2 := hgrow.size
      have z3 : W3.heap.size ≤ (W3.alloc (Obj.cells #[Value.string e.key, Value.string e.fr, Value.string e.dest, Value.string e.text] 34)).heap.size := by simp
      have z4 : (W3.alloc (Obj.cells #[Value.string e.key, Value.string e.fr, Value.string e.dest, Value.string e.text] 34)).heap.size ≤ w1.heap.size := z2
      omega
    · intro k hk
      have hk' : gg = k := Option.some.inj hk
      rcases hat with h1 | h1
      · left; rw [← hk']; exact h1
      · right; omega
end Go.Proofs.Ytbifmgenljjleaa.Sp
