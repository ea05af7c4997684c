-- Texts of this session put together by a program of it (wip/pack.py).
import Derived.Test.YtpniccllpfonfaaGreatDoorKG4
import Derived.Deep.DeepCutAuto
namespace Go.Proofs.YtpniccllpfonfaaGreatDoor.St
open Go Go.RowKit Go.Sort Go.Proofs.YtpniccllpfonfaaGreatDoorW.PrintWords Go.Proofs.YtpniccllpfonfaaGreatDoor.Wd Go.Proofs.YtpniccllpfonfaaGreatDoor.Q
def mbCells (m : Mb) : Array Value := #[.string m.loc, .string m.dom, .int .i64 m.mode, .bool m.off, .int .i64 m.score, .int .i64 m.day, .int .i64 m.ticket, .int .i64 m.since]
/-- What a text must be for a member to be read of it. -/
structure Reads (k : Nat) (s : ByteArray) (m : Mb) (nd : Bool) (l : List ByteArray) (t wd : ByteArray) : Prop where
  pick : nets_Pick.f k s 8 = some (l, 0)
  len : l.length = 8
  parse : addr_Parse.f k (l.getD 0 ⟨#[]⟩) = some (m.loc, m.dom, 0)
  mode : roster_Mode.f k (l.getD 1 ⟨#[]⟩) = some m.mode
  off : ((l.getD 2 ⟨#[]⟩).toList == (⟨#[121, 101, 115]⟩ : ByteArray).toList) = m.off
  score : roster_figure.f k (l.getD 3 ⟨#[]⟩) = some m.score
  day : roster_figure.f k (l.getD 4 ⟨#[]⟩) = some m.day
  ticket : roster_figure.f k (l.getD 5 ⟨#[]⟩) = some m.ticket
  since : roster_figure.f k (l.getD 6 ⟨#[]⟩) = some m.since
  why : addr_why.f k m.loc m.dom = some 0
  fold : glyph_Fold.f m.dom = some m.dom
  word : roster_Word.f m.mode = some wd
  wordNe : wd.toList.isEmpty = false
  nums : NumOk m nd
  text : addr_Addr_Text.f k m.loc m.dom = some t
  yes : roster_yes.f m.off = some (yesB m.off)
  i1 : I64 m.score
  i2 : I64 m.day
  i3 : I64 m.ticket
  i4 : I64 m.since
  small : ∀ s ∈ rowM m t wd, s.size ≤ 90000000
  same : (⟨(rowL (rowM m t wd)).toArray⟩ : ByteArray) = s
/-- A call behind what is known of the world. -/
theorem below_step {B : Nat} {W3 W W' w5 : World} (h : Below B W3 W) (hB : B ≤ W3.heap.size) (h1 : Below W.heap.size W W') (h2 : Below W'.heap.size W' w5) : Below B W3 w5 :=
  (h.trans (h1.mono (Nat.le_trans hB h.size))).trans (h2.mono (Nat.le_trans hB (Nat.le_trans h.size h1.size)))
theorem keep_alloc {W w5 : World} {o : Obj} (h : Below (W.alloc o).heap.size (W.alloc o) w5) : w5.heap[W.heap.size]? = some o := (h.block _ (by rw [size_alloc]; omega)).trans (heap_alloc_new W o)
theorem set8_heap {W : World} {b t : Nat} {c0 c1 c2 c3 c4 c5 c6 c7 v0 v1 v2 v3 v4 v5 v6 v7 : Value} (n : W.heap[b]? = some (.cells #[c0, c1, c2, c3, c4, c5, c6, c7] t (0, 0))) : ((((((((W.setCell ⟨b, 0, none⟩ v0).setCell ⟨b, 1, none⟩ v1).setCell ⟨b, 2, none⟩ v2).setCell ⟨b, 3, none⟩ v3).setCell ⟨b, 4, none⟩ v4).setCell ⟨b, 5, none⟩ v5).setCell ⟨b, 6, none⟩ v6).setCell ⟨b, 7, none⟩ v7).heap[b]? = some (.cells #[v0, v1, v2, v3, v4, v5, v6, v7] t (0, 0)) := by
  have := blk_set (blk_set (blk_set (blk_set (blk_set (blk_set (blk_set (blk_set n 0 v0) 1 v1) 2 v2) 3 v3) 4 v4) 5 v5) 6 v6) 7 v7
  simpa using this
theorem below_set8 {B : Nat} {W3 W : World} {b : Nat} {v0 v1 v2 v3 v4 v5 v6 v7 : Value} (h : Below B W3 W) (hb : B ≤ b) : Below B W3 ((((((((W.setCell ⟨b, 0, none⟩ v0).setCell ⟨b, 1, none⟩ v1).setCell ⟨b, 2, none⟩ v2).setCell ⟨b, 3, none⟩ v3).setCell ⟨b, 4, none⟩ v4).setCell ⟨b, 5, none⟩ v5).setCell ⟨b, 6, none⟩ v6).setCell ⟨b, 7, none⟩ v7) :=
  (((((((h.setCell (p := ⟨b, 0, none⟩) hb _).setCell (p := ⟨b, 1, none⟩) hb _).setCell (p := ⟨b, 2, none⟩) hb _).setCell (p := ⟨b, 3, none⟩) hb _).setCell (p := ⟨b, 4, none⟩) hb _).setCell (p := ⟨b, 5, none⟩) hb _).setCell (p := ⟨b, 6, none⟩) hb _).setCell (p := ⟨b, 7, none⟩) hb _
theorem keep_set {W w6 : World} {b t : Nat} {c0 c1 c2 c3 c4 c5 c6 c7 v0 v1 v2 v3 v4 v5 v6 v7 : Value} (h : Below ((((((((W.setCell ⟨b, 0, none⟩ v0).setCell ⟨b, 1, none⟩ v1).setCell ⟨b, 2, none⟩ v2).setCell ⟨b, 3, none⟩ v3).setCell ⟨b, 4, none⟩ v4).setCell ⟨b, 5, none⟩ v5).setCell ⟨b, 6, none⟩ v6).setCell ⟨b, 7, none⟩ v7).heap.size ((((((((W.setCell ⟨b, 0, none⟩ v0).setCell ⟨b, 1, none⟩ v1).setCell ⟨b, 2, none⟩ v2).setCell ⟨b, 3, none⟩ v3).setCell ⟨b, 4, none⟩ v4).setCell ⟨b, 5, none⟩ v5).setCell ⟨b, 6, none⟩ v6).setCell ⟨b, 7, none⟩ v7) w6) (n : W.heap[b]? = some (.cells #[c0, c1, c2, c3, c4, c5, c6, c7] t (0, 0))) : w6.heap[b]? = some (.cells #[v0, v1, v2, v3, v4, v5, v6, v7] t (0, 0)) :=
  (h.block b (Array.getElem?_eq_some_iff.1 (set8_heap n)).1).trans (set8_heap n)
/-- Behind the store: the block, and what lies below. -/
theorem after_set {W3 W w6 : World} {b t : Nat} {c0 c1 c2 c3 c4 c5 c6 c7 v0 v1 v2 v3 v4 v5 v6 v7 : Value} (h : Below ((((((((W.setCell ⟨b, 0, none⟩ v0).setCell ⟨b, 1, none⟩ v1).setCell ⟨b, 2, none⟩ v2).setCell ⟨b, 3, none⟩ v3).setCell ⟨b, 4, none⟩ v4).setCell ⟨b, 5, none⟩ v5).setCell ⟨b, 6, none⟩ v6).setCell ⟨b, 7, none⟩ v7).heap.size ((((((((W.setCell ⟨b, 0, none⟩ v0).setCell ⟨b, 1, none⟩ v1).setCell ⟨b, 2, none⟩ v2).setCell ⟨b, 3, none⟩ v3).setCell ⟨b, 4, none⟩ v4).setCell ⟨b, 5, none⟩ v5).setCell ⟨b, 6, none⟩ v6).setCell ⟨b, 7, none⟩ v7) w6) (n : W.heap[b]? = some (.cells #[c0, c1, c2, c3, c4, c5, c6, c7] t (0, 0))) (hB : Below W3.heap.size W3 W) (hb : W3.heap.size ≤ b) : w6.heap[b]? = some (.cells #[v0, v1, v2, v3, v4, v5, v6, v7] t (0, 0)) ∧ Below W3.heap.size W3 w6 :=
  ⟨keep_set h n, (below_set8 hB hb).trans (h.mono (below_set8 hB hb).size)⟩
theorem after_new {W3 W w6 : World} {o : Obj} (h : Below (W.alloc o).heap.size (W.alloc o) w6) (hB : Below W3.heap.size W3 W) : w6.heap[W.heap.size]? = some o ∧ Below W3.heap.size W3 w6 :=
  ⟨keep_alloc h, (below_alloc hB _).trans (h.mono (below_alloc hB _).size)⟩
theorem cell_set8 {W : World} {b x j : Nat} {u v0 v1 v2 v3 v4 v5 v6 v7 : Value} (hne : x ≠ b) (h : W.cell? ⟨x, j, none⟩ = some u) :
    ((((((((W.setCell ⟨b, 0, none⟩ v0).setCell ⟨b, 1, none⟩ v1).setCell ⟨b, 2, none⟩ v2).setCell ⟨b, 3, none⟩ v3).setCell ⟨b, 4, none⟩ v4).setCell ⟨b, 5, none⟩ v5).setCell ⟨b, 6, none⟩ v6).setCell ⟨b, 7, none⟩ v7).cell? ⟨x, j, none⟩ = some u := by
  have one : ∀ (W : World) (o : Nat) (v : Value), W.cell? ⟨x, j, none⟩ = some u → (W.setCell ⟨b, o, none⟩ v).cell? ⟨x, j, none⟩ = some u := fun W o v h => (World.cell?_of_block (Below.heap_setCell W ⟨b, o, none⟩ v x hne)).trans h
  exact one _ _ _ (one _ _ _ (one _ _ _ (one _ _ _ (one _ _ _ (one _ _ _ (one _ _ _ (one _ _ _ h)))))))
theorem keep_alloc_drew {W w5 : World} {o : Obj} (h : Below (W.alloc o).drew.heap.size (W.alloc o).drew w5) : w5.heap[W.heap.size]? = some o := keep_alloc (W := W) ⟨h.os, h.tape, h.output, h.size, h.block⟩
theorem ne_new_drew {W3 W w5 : World} {o : Obj} {g : Nat} (_h : Below (W.alloc o).drew.heap.size (W.alloc o).drew w5) (hs : W3.heap.size ≤ W.heap.size) (hg : g < W3.heap.size) : g ≠ W.heap.size := by omega
theorem ne_new {W3 W w5 : World} {o : Obj} {g : Nat} (_h : Below (W.alloc o).heap.size (W.alloc o) w5) (hs : W3.heap.size ≤ W.heap.size) (hg : g < W3.heap.size) : g ≠ W.heap.size := by omega
theorem keep_old {Wo W w5 : World} {b : Nat} {o : Obj} (n : Wo.heap[b]? = some o) (h1 : Below Wo.heap.size Wo W) (h2 : Below W.heap.size W w5) : w5.heap[b]? = some o := by
  have hb := (Array.getElem?_eq_some_iff.1 n).1
  exact (h2.block b (Nat.lt_of_lt_of_le hb h1.size)).trans ((h1.block b hb).trans n)
theorem eight {W : World} {b t : Nat} {c0 c1 c2 c3 c4 c5 c6 c7 : Value} (n : W.heap[b]? = some (.cells #[c0, c1, c2, c3, c4, c5, c6, c7] t (0, 0))) : (W.cell? ⟨b, 0, none⟩ = some c0 ∧ W.cell? ⟨b, 1, none⟩ = some c1 ∧ W.cell? ⟨b, 2, none⟩ = some c2 ∧ W.cell? ⟨b, 3, none⟩ = some c3 ∧ W.cell? ⟨b, 4, none⟩ = some c4 ∧ W.cell? ⟨b, 5, none⟩ = some c5 ∧ W.cell? ⟨b, 6, none⟩ = some c6 ∧ W.cell? ⟨b, 7, none⟩ = some c7) ∧ W.frozen? ⟨b, 0, none⟩ = false ∧ W.frozen? ⟨b, 1, none⟩ = false ∧ W.frozen? ⟨b, 2, none⟩ = false ∧ W.frozen? ⟨b, 3, none⟩ = false ∧ W.frozen? ⟨b, 4, none⟩ = false ∧ W.frozen? ⟨b, 5, none⟩ = false ∧ W.frozen? ⟨b, 6, none⟩ = false ∧ W.frozen? ⟨b, 7, none⟩ = false :=
  ⟨⟨blk_cell n 0, blk_cell n 1, blk_cell n 2, blk_cell n 3, blk_cell n 4, blk_cell n 5, blk_cell n 6, blk_cell n 7⟩, blk_frozen n _, blk_frozen n _, blk_frozen n _, blk_frozen n _, blk_frozen n _, blk_frozen n _, blk_frozen n _, blk_frozen n _⟩
section
variable {w0 w : World}
set_option maxRecDepth 100000 in
set_option maxHeartbeats 20000000 in
theorem read_ok (hA : Amb w) {k : Nat} {s : ByteArray} {m : Mb} {nd : Bool} {l : List ByteArray} {t wd : ByteArray} (H : Reads k s m nd l t wd) :
    Calls Tryz.prog 55 #[.string s] w fun e w' => e = .returned (.tuple #[.agg (mbCells m), .int .i64 0]) ∧ Below w.heap.size w w' := by
  have b0 := below_alloc (Below.refl w.heap.size w) (.cells #[.string ⟨#[]⟩, .string ⟨#[]⟩, .int .i64 0, .bool false, .int .i64 0, .int .i64 0, .int .i64 0, .int .i64 0] 47 (0, 0))
  have n0 := heap_alloc_new w (.cells #[.string ⟨#[]⟩, .string ⟨#[]⟩, .int .i64 0, .bool false, .int .i64 0, .int .i64 0, .int .i64 0, .int .i64 0] 47 (0, 0))
  obtain ⟨W0, hW0⟩ : ∃ W0, W0 = w.alloc (.cells #[.string ⟨#[]⟩, .string ⟨#[]⟩, .int .i64 0, .bool false, .int .i64 0, .int .i64 0, .int .i64 0, .int .i64 0] 47 (0, 0)) := ⟨_, rfl⟩
  have hs0 : W0.heap.size = w.heap.size + 1 := by rw [hW0, size_alloc]
  rw [← hW0] at b0 n0
  have H8 := Lib.hid H.len
  have mixed : Tryz.prog.follows Departure.mixedOrders = true := by kernel_rfl
  have hpick : ∀ W, Calls Tryz.prog 98 #[.string s, .int .i64 8] W fun e w' => (∃ g c, e = .returned (.tuple #[.slice (some ⟨g, 0, none⟩) 8 c, .int .i64 0]) ∧ ∀ j, j < 8 → w'.cell? ⟨g, j, none⟩ = some (.string (l.getD j ⟨#[]⟩))) ∧ Below W.heap.size W w' := fun W => by
    refine (nets_Pick.calls k s 8 l 0 W H.pick).mono ?_
    rintro e w2 ⟨v0, rfl, hR, hb⟩
    obtain ⟨A9, c9, rfl⟩ := Kd.R_slice hR
    have hrow := Kd.own_of_R hR
    have h8 := H.len
    obtain ⟨g, cur, rfl, _, _, _, hx⟩ := rowE_at hrow (by omega)
    refine ⟨⟨g, c9, by rw [h8], fun j hj => hx j _ ?_⟩, hb⟩
    have hj2 : j < l.length := by omega
    show (l.map Value.string)[j]? = _
    rw [List.getElem?_map, List.getElem?_eq_getElem hj2, List.getD_eq_getElem?_getD, List.getElem?_eq_getElem hj2]
    rfl
  have hparse := fun W => addr_Parse.calls k (l.getD 0 ⟨#[]⟩) m.loc m.dom 0 W H.parse
  have hsound : ∀ W, Calls Tryz.prog 102 #[.agg #[.string m.loc, .string m.dom, .int .i64 m.mode, .bool m.off, .int .i64 m.score, .int .i64 m.day, .int .i64 m.ticket, .int .i64 m.since]] W fun e w' => e = .returned (.bool true) ∧ Below W.heap.size W w' := fun W => sound_ok m nd k wd H.why H.fold H.word H.wordNe H.nums
  have hrowm : ∀ W, Below w.heap.size w W → Calls Tryz.prog 76 #[.agg #[.string m.loc, .string m.dom, .int .i64 m.mode, .bool m.off, .int .i64 m.score, .int .i64 m.day, .int .i64 m.ticket, .int .i64 m.since]] W fun e w' => e = .returned (.string s) ∧ Below W.heap.size W w' := fun W hb => by
    have := row_m (hA.at hb) m k t wd H.text H.word H.yes H.i1 H.i2 H.i3 H.i4 H.small
    rw [H.same] at this
    exact this
  have hmode := fun W => calls_below (w := W) (roster_Mode.calls k (l.getD 1 ⟨#[]⟩) m.mode W H.mode)
  have hf3 := fun W => calls_below (w := W) (roster_figure.calls k (l.getD 3 ⟨#[]⟩) m.score W H.score)
  have hf4 := fun W => calls_below (w := W) (roster_figure.calls k (l.getD 4 ⟨#[]⟩) m.day W H.day)
  have hf5 := fun W => calls_below (w := W) (roster_figure.calls k (l.getD 5 ⟨#[]⟩) m.ticket W H.ticket)
  have hf6 := fun W => calls_below (w := W) (roster_figure.calls k (l.getD 6 ⟨#[]⟩) m.since W H.since)
  have hoff := H.off
  obtain ⟨x0, x1, x2, x3, x4, x5, x6, e0, e1, e2, e3, e4, e5, e6⟩ : ∃ x0 x1 x2 x3 x4 x5 x6 : ByteArray, x0 = l.getD 0 ⟨#[]⟩ ∧ x1 = l.getD 1 ⟨#[]⟩ ∧ x2 = l.getD 2 ⟨#[]⟩ ∧ x3 = l.getD 3 ⟨#[]⟩ ∧ x4 = l.getD 4 ⟨#[]⟩ ∧ x5 = l.getD 5 ⟨#[]⟩ ∧ x6 = l.getD 6 ⟨#[]⟩ := ⟨_, _, _, _, _, _, _, rfl, rfl, rfl, rfl, rfl, rfl, rfl⟩
  have hpick2 : ∀ W, Calls Tryz.prog 98 #[.string s, .int .i64 8] W fun e w' => (∃ g c, e = .returned (.tuple #[.slice (some ⟨g, 0, none⟩) 8 c, .int .i64 0]) ∧ w'.cell? ⟨g, 0, none⟩ = some (.string x0) ∧ w'.cell? ⟨g, 1, none⟩ = some (.string x1) ∧ w'.cell? ⟨g, 2, none⟩ = some (.string x2) ∧ w'.cell? ⟨g, 3, none⟩ = some (.string x3) ∧ w'.cell? ⟨g, 4, none⟩ = some (.string x4) ∧ w'.cell? ⟨g, 5, none⟩ = some (.string x5) ∧ w'.cell? ⟨g, 6, none⟩ = some (.string x6)) ∧ Below W.heap.size W w' := fun W => by
    refine (hpick W).mono ?_
    rintro e w2 ⟨⟨g, c, rfl, hx⟩, hb⟩
    rw [e0, e1, e2, e3, e4, e5, e6]
    exact ⟨⟨g, c, rfl, hx 0 (by decide), hx 1 (by decide), hx 2 (by decide), hx 3 (by decide), hx 4 (by decide), hx 5 (by decide), hx 6 (by decide)⟩, hb⟩
  rw [← e0] at hparse
  rw [← e1] at hmode
  rw [← e2] at hoff
  rw [← e3] at hf3
  rw [← e4] at hf4
  rw [← e5] at hf5
  rw [← e6] at hf6
  clear e0 e1 e2 e3 e4 e5 e6 hpick H H8
  have hoff2 : (x2.toList == [121, 101, 115]) = m.off := by
    have e : (⟨#[121, 101, 115]⟩ : ByteArray).toList = [121, 101, 115] := by rw [ByteArray.toList_eq]
    rw [e] at hoff
    exact hoff
  clear hoff
  go_enter Tryz.func55, Tryz.ntmps55
  go_wp2_with (fail)
  rw [← hW0]
  clear hW0
  (go_at_call 98; (with_reducible refine (hpick2 _).mono ?_); rintro e w2 ⟨⟨g, c9, rfl, y0, y1, y2, y3, y4, y5, y6⟩, b2⟩)
  go_wp2_with (go_at_call 99; (with_reducible refine (hparse _).mono ?_); rintro e w3 ⟨rfl, b3⟩)
  obtain ⟨W3, hW3⟩ : ∃ W3, W3 = w3.alloc (.cells #[.string m.loc, .string m.dom] 45 (0, 0)) := ⟨_, rfl⟩
  have b3' : Below w3.heap.size w3 W3 := by rw [hW3]; exact below_alloc (Below.refl _ _) _
  have n3 : W3.heap[w3.heap.size]? = some (.cells #[.string m.loc, .string m.dom] 45 (0, 0)) := by rw [hW3]; exact heap_alloc_new w3 _
  rw [← hW3]
  clear hW3
  have s2 := b2.size
  have s3 := b3.size
  have s3' := b3'.size
  have b23 : Below w2.heap.size w2 W3 := b3.trans (b3'.mono s3)
  have b03 : Below W0.heap.size W0 W3 := b2.trans (b23.mono s2)
  have hcells : ∀ W, Below W3.heap.size W3 W → W.cell? ⟨w3.heap.size, 0, none⟩ = some (.string m.loc) ∧ W.cell? ⟨w3.heap.size, 1, none⟩ = some (.string m.dom) ∧ W.cell? ⟨g, 1, none⟩ = some (.string x1) ∧ W.cell? ⟨g, 2, none⟩ = some (.string x2) ∧ W.cell? ⟨g, 3, none⟩ = some (.string x3) ∧ W.cell? ⟨g, 4, none⟩ = some (.string x4) ∧ W.cell? ⟨g, 5, none⟩ = some (.string x5) ∧ W.cell? ⟨g, 6, none⟩ = some (.string x6) := fun W hb =>
    ⟨cell_then hb (blk_cell n3 0), cell_then hb (blk_cell n3 1), cell_then hb (cell_then b23 y1), cell_then hb (cell_then b23 y2), cell_then hb (cell_then b23 y3), cell_then hb (cell_then b23 y4), cell_then hb (cell_then b23 y5), cell_then hb (cell_then b23 y6)⟩
  have HBX : Below W3.heap.size W3 W3 := Below.refl _ _
  obtain ⟨f0, f1, f2, f3, f4, f5, f6, f7⟩ := hcells _ HBX
  have HC := Lib.hid hcells
  have HW3 := Lib.hid (b0.trans (b03.mono (by omega)))
  have hww : w.heap.size ≤ W3.heap.size := by omega
  have hw3r : w.heap.size < W3.heap.size := by omega
  have NR := Lib.hid ((b03.block _ (by omega)).trans n0)
  have hgl : g < W3.heap.size := World.block_lt_of_cell? W3 _ f2
  have hw3l : w3.heap.size < W3.heap.size := World.block_lt_of_cell? W3 _ f0
  have hne5 : g ≠ W3.heap.size := by omega
  have hne6 : w3.heap.size ≠ W3.heap.size := by omega
  have hgn : g ≠ w3.heap.size := fun e => by rw [e] at y1; have := World.block_lt_of_cell? w2 _ y1; simp at this; omega
  clear y0 y1 y2 y3 y4 y5 y6 n3 b3 b3' b23 hparse hpick2 hcells
  go_cut [7] (fun s7 wx => ∃ b, s7 = .pointer (some ⟨b, 0, none⟩) ∧ wx.heap[b]? = some (.cells #[.string m.loc, .string m.dom, .int .i64 m.mode, .bool m.off, .int .i64 m.score, .int .i64 m.day, .int .i64 m.ticket, .int .i64 m.since] 47 (0, 0)) ∧ Below W3.heap.size W3 wx)
  case first =>
    go_region_held3 (fun w' => w'.cell? ⟨w3.heap.size, 0, none⟩ = some (.string m.loc) ∧ w'.cell? ⟨w3.heap.size, 1, none⟩ = some (.string m.dom) ∧ w'.cell? ⟨g, 1, none⟩ = some (.string x1) ∧ w'.cell? ⟨g, 2, none⟩ = some (.string x2) ∧ w'.cell? ⟨g, 3, none⟩ = some (.string x3) ∧ w'.cell? ⟨g, 4, none⟩ = some (.string x4) ∧ w'.cell? ⟨g, 5, none⟩ = some (.string x5) ∧ w'.cell? ⟨g, 6, none⟩ = some (.string x6)) (first | go_keep | (refine ⟨?_, ?_, ?_, ?_, ?_, ?_, ?_, ?_⟩ <;> (refine cell_set8 (by first | assumption | omega) ?_; assumption))) (first
      | (go_at_call 100; (with_reducible refine (hmode _).mono ?_); rintro e w5 ⟨rfl, hb5⟩; have hszp := HBX.size; replace HBX := below_step HBX (Nat.le_refl _) (by repeat (with_reducible first | exact Below.refl _ _ | apply below_alloc | apply pw_below_drewN | apply below_drew1)) hb5; obtain ⟨f0, f1, f2, f3, f4, f5, f6, f7⟩ := HC.out _ HBX; have hsz9 := HBX.size; have hne3 : g ≠ w5.heap.size := (by omega); have hne4 : w3.heap.size ≠ w5.heap.size := (by omega); first | ((with_reducible (have n9 := keep_alloc hb5)); have hne1 := ne_new hb5 hszp hgl; have hne2 := ne_new hb5 hszp hw3l; obtain ⟨⟨u0, u1, u2, u3, u4, u5, u6, u7⟩, v0, v1, v2, v3, v4, v5, v6, v7⟩ := eight n9) | ((with_reducible (have n9 := keep_alloc_drew hb5)); have hne1 := ne_new_drew hb5 hszp hgl; have hne2 := ne_new_drew hb5 hszp hw3l; obtain ⟨⟨u0, u1, u2, u3, u4, u5, u6, u7⟩, v0, v1, v2, v3, v4, v5, v6, v7⟩ := eight n9) | (replace n9 := keep_old n9 (by repeat (with_reducible first | exact Below.refl _ _ | apply below_alloc | apply pw_below_drewN | apply below_drew1)) hb5; obtain ⟨⟨u0, u1, u2, u3, u4, u5, u6, u7⟩, v0, v1, v2, v3, v4, v5, v6, v7⟩ := eight n9) | skip)
      | (go_at_call 101; (with_reducible refine (hf3 _).mono ?_); rintro e w5 ⟨rfl, hb5⟩; have hszp := HBX.size; replace HBX := below_step HBX (Nat.le_refl _) (by repeat (with_reducible first | exact Below.refl _ _ | apply below_alloc | apply pw_below_drewN | apply below_drew1)) hb5; obtain ⟨f0, f1, f2, f3, f4, f5, f6, f7⟩ := HC.out _ HBX; have hsz9 := HBX.size; have hne3 : g ≠ w5.heap.size := (by omega); have hne4 : w3.heap.size ≠ w5.heap.size := (by omega); first | ((with_reducible (have n9 := keep_alloc hb5)); have hne1 := ne_new hb5 hszp hgl; have hne2 := ne_new hb5 hszp hw3l; obtain ⟨⟨u0, u1, u2, u3, u4, u5, u6, u7⟩, v0, v1, v2, v3, v4, v5, v6, v7⟩ := eight n9) | ((with_reducible (have n9 := keep_alloc_drew hb5)); have hne1 := ne_new_drew hb5 hszp hgl; have hne2 := ne_new_drew hb5 hszp hw3l; obtain ⟨⟨u0, u1, u2, u3, u4, u5, u6, u7⟩, v0, v1, v2, v3, v4, v5, v6, v7⟩ := eight n9) | (replace n9 := keep_old n9 (by repeat (with_reducible first | exact Below.refl _ _ | apply below_alloc | apply pw_below_drewN | apply below_drew1)) hb5; obtain ⟨⟨u0, u1, u2, u3, u4, u5, u6, u7⟩, v0, v1, v2, v3, v4, v5, v6, v7⟩ := eight n9) | skip)
      | (go_at_call 101; (with_reducible refine (hf4 _).mono ?_); rintro e w5 ⟨rfl, hb5⟩; have hszp := HBX.size; replace HBX := below_step HBX (Nat.le_refl _) (by repeat (with_reducible first | exact Below.refl _ _ | apply below_alloc | apply pw_below_drewN | apply below_drew1)) hb5; obtain ⟨f0, f1, f2, f3, f4, f5, f6, f7⟩ := HC.out _ HBX; have hsz9 := HBX.size; have hne3 : g ≠ w5.heap.size := (by omega); have hne4 : w3.heap.size ≠ w5.heap.size := (by omega); first | ((with_reducible (have n9 := keep_alloc hb5)); have hne1 := ne_new hb5 hszp hgl; have hne2 := ne_new hb5 hszp hw3l; obtain ⟨⟨u0, u1, u2, u3, u4, u5, u6, u7⟩, v0, v1, v2, v3, v4, v5, v6, v7⟩ := eight n9) | ((with_reducible (have n9 := keep_alloc_drew hb5)); have hne1 := ne_new_drew hb5 hszp hgl; have hne2 := ne_new_drew hb5 hszp hw3l; obtain ⟨⟨u0, u1, u2, u3, u4, u5, u6, u7⟩, v0, v1, v2, v3, v4, v5, v6, v7⟩ := eight n9) | (replace n9 := keep_old n9 (by repeat (with_reducible first | exact Below.refl _ _ | apply below_alloc | apply pw_below_drewN | apply below_drew1)) hb5; obtain ⟨⟨u0, u1, u2, u3, u4, u5, u6, u7⟩, v0, v1, v2, v3, v4, v5, v6, v7⟩ := eight n9) | skip)
      | (go_at_call 101; (with_reducible refine (hf5 _).mono ?_); rintro e w5 ⟨rfl, hb5⟩; have hszp := HBX.size; replace HBX := below_step HBX (Nat.le_refl _) (by repeat (with_reducible first | exact Below.refl _ _ | apply below_alloc | apply pw_below_drewN | apply below_drew1)) hb5; obtain ⟨f0, f1, f2, f3, f4, f5, f6, f7⟩ := HC.out _ HBX; have hsz9 := HBX.size; have hne3 : g ≠ w5.heap.size := (by omega); have hne4 : w3.heap.size ≠ w5.heap.size := (by omega); first | ((with_reducible (have n9 := keep_alloc hb5)); have hne1 := ne_new hb5 hszp hgl; have hne2 := ne_new hb5 hszp hw3l; obtain ⟨⟨u0, u1, u2, u3, u4, u5, u6, u7⟩, v0, v1, v2, v3, v4, v5, v6, v7⟩ := eight n9) | ((with_reducible (have n9 := keep_alloc_drew hb5)); have hne1 := ne_new_drew hb5 hszp hgl; have hne2 := ne_new_drew hb5 hszp hw3l; obtain ⟨⟨u0, u1, u2, u3, u4, u5, u6, u7⟩, v0, v1, v2, v3, v4, v5, v6, v7⟩ := eight n9) | (replace n9 := keep_old n9 (by repeat (with_reducible first | exact Below.refl _ _ | apply below_alloc | apply pw_below_drewN | apply below_drew1)) hb5; obtain ⟨⟨u0, u1, u2, u3, u4, u5, u6, u7⟩, v0, v1, v2, v3, v4, v5, v6, v7⟩ := eight n9) | skip)
      | (go_at_call 101; (with_reducible refine (hf6 _).mono ?_); rintro e w5 ⟨rfl, hb5⟩; have hszp := HBX.size; replace HBX := below_step HBX (Nat.le_refl _) (by repeat (with_reducible first | exact Below.refl _ _ | apply below_alloc | apply pw_below_drewN | apply below_drew1)) hb5; obtain ⟨f0, f1, f2, f3, f4, f5, f6, f7⟩ := HC.out _ HBX; have hsz9 := HBX.size; have hne3 : g ≠ w5.heap.size := (by omega); have hne4 : w3.heap.size ≠ w5.heap.size := (by omega); first | ((with_reducible (have n9 := keep_alloc hb5)); have hne1 := ne_new hb5 hszp hgl; have hne2 := ne_new hb5 hszp hw3l; obtain ⟨⟨u0, u1, u2, u3, u4, u5, u6, u7⟩, v0, v1, v2, v3, v4, v5, v6, v7⟩ := eight n9) | ((with_reducible (have n9 := keep_alloc_drew hb5)); have hne1 := ne_new_drew hb5 hszp hgl; have hne2 := ne_new_drew hb5 hszp hw3l; obtain ⟨⟨u0, u1, u2, u3, u4, u5, u6, u7⟩, v0, v1, v2, v3, v4, v5, v6, v7⟩ := eight n9) | (replace n9 := keep_old n9 (by repeat (with_reducible first | exact Below.refl _ _ | apply below_alloc | apply pw_below_drewN | apply below_drew1)) hb5; obtain ⟨⟨u0, u1, u2, u3, u4, u5, u6, u7⟩, v0, v1, v2, v3, v4, v5, v6, v7⟩ := eight n9) | skip)
      | fail)
    all_goals
      go_wp2_with (fail)
      go_meet
      with_reducible first | exact ⟨_, rfl, heap_alloc_new _ _, below_alloc HBX _⟩ | exact ⟨_, rfl, set8_heap n9, below_set8 HBX (by omega)⟩
  case rest =>
    obtain ⟨b, rfl, n6, B6⟩ := hcut
    clear f0 f1 f2 f3 f4 f5 f6 f7 HC hmode hf3 hf4 hf5 hf6 hoff2 HBX
    obtain ⟨⟨u0, u1, u2, u3, u4, u5, u6, u7⟩, v0, v1, v2, v3, v4, v5, v6, v7⟩ := eight n6
    go_wp2_with (first
      | (go_at_call 102; (with_reducible refine (hsound _).mono ?_); rintro e w6 ⟨rfl, hb6⟩; replace n6 := (hb6.block _ (Array.getElem?_eq_some_iff.1 n6).1).trans n6; replace B6 := B6.trans (hb6.mono B6.size); obtain ⟨⟨u0, u1, u2, u3, u4, u5, u6, u7⟩, v0, v1, v2, v3, v4, v5, v6, v7⟩ := eight n6)
      | (go_at_call 76; (with_reducible refine (hrowm _ (HW3.out.trans (B6.mono hww))).mono ?_); rintro e w7 ⟨rfl, hb7⟩; have n7 := (hb7.block _ (Array.getElem?_eq_some_iff.1 n6).1).trans n6; have B7 : Below W3.heap.size W3 w7 := B6.trans (hb7.mono B6.size); have nr := (B7.block _ hw3r).trans NR.out; obtain ⟨⟨u0, u1, u2, u3, u4, u5, u6, u7⟩, v0, v1, v2, v3, v4, v5, v6, v7⟩ := eight n7; obtain ⟨⟨g0, g1, g2, g3, g4, g5, g6, g7⟩, h0, h1, h2, h3, h4, h5, h6, h7⟩ := eight nr))
    refine bodyPost_ret (results_ct rfl _ _ w.heap.size 47 (mbCells m) (0, 0) _ rfl (set8_heap nr) Tryz.underlying47 rfl (by kernel_rfl)) rfl ?_
    exact ⟨rfl, below_set8 (HW3.out.trans (B7.mono hww)) (Nat.le_refl _)⟩
end
end Go.Proofs.YtpniccllpfonfaaGreatDoor.St
