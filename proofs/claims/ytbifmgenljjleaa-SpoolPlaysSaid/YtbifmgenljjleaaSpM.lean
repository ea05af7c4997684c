/- The spool's law SpoolPlays: its walk. -/
import Derived.Test.YtbifmgenljjleaaSpL
import Derived.LoopTactic
import Derived.Deep.QuietTactic
import Derived.BigQuiet
import Derived.Outline
import Derived.Lib.Hide
import Derived.Deep.RegionHeld3
namespace Go.Proofs.Ytbifmgenljjleaa.Sp
open Go Go.RowKit Go.Maps Go.WideMaps Go.Proofs.YtbifmgenljjleaaW.PrintWords Go.Proofs.Ytbifmgenljjleaa.Q

theorem rowE_of {w w' : World} {B e z n : Nat} {v : Value} {xs : List Value} (h : w.ownsRow B e z v n xs) (hk : ∀ k, v.ownBlock = some k → w'.heap[k]? = w.heap[k]?) : w'.ownsRow B e z v n xs := by
  refine ⟨h.1, ?_⟩
  rcases h.2 with h2 | ⟨g, cap, cur, h2, h3, h4, h5⟩
  · exact .inl h2
  · exact .inr ⟨g, cap, cur, h2, h3, (hk g (by rw [h2]; rfl)).trans h4, h5⟩
theorem rowE_below {w w' : World} {B e z n : Nat} {v : Value} {xs : List Value} (h : w.ownsRow B e z v n xs) (hk : Below w.heap.size w w') : w'.ownsRow B e z v n xs :=
  rowE_of h (fun k e => hk.block k (h.lt k e).2)
/-- The spool and the document's, side by side. -/
structure Both (B : Nat) (w wr : World) (g bm gq : Nat) (v vq : Value) (l l2 : List E) (r r2 : Bool) : Prop where
  st : St B wr g bm v l r
  bel : Below B w wr
  box : wr.heap[gq]? = some (.cells #[vq, .bool r2] 41 (0, 0))
  row : Kd.R k29 29 wr B (fun _ => True) vq (l2.map E.s29)
  gq0 : B ≤ gq
  sz : B ≤ wr.heap.size
def QP (g bm gq : Nat) (v : Value) (n : Nat) (k : Nat) : Prop := k ≠ g ∧ k ≠ bm ∧ v.ownBlock ≠ some k ∧ k ≠ gq ∧ k < n
section
variable {B : Nat} {w wr : World} {g bm gq : Nat} {v vq : Value} {l l2 : List E} {r r2 : Bool}
theorem Both.ne (h : Both B w wr g bm gq v vq l l2 r r2) : gq ≠ g ∧ gq ≠ bm ∧ v.ownBlock ≠ some gq ∧ gq < wr.heap.size := by
  have hb := h.box
  have hg := h.st.blk
  obtain ⟨es, c, hm, _⟩ := h.st.map
  refine ⟨fun e => ?_, fun e => ?_, fun e => ?_, (Array.getElem?_eq_some_iff.1 hb).1⟩
  · subst e; rw [hg] at hb; cases hb
  · subst e; rw [hm] at hb; cases hb
  · rcases h.st.row.2 with ⟨h1, _⟩ | ⟨g', cap, cur, h1, _, h4, _⟩
    · rw [h1] at e; cases e
    · rw [h1] at e
      have e2 : g' = gq := Option.some.inj e
      subst e2
      rw [h4] at hb
      cases hb
theorem Both.rowP (h : Both B w wr g bm gq v vq l l2 r r2) : Kd.R k29 29 wr B (QP g bm gq v wr.heap.size) vq (l2.map E.s29) := by
  refine Kd.R_mono (Kd.R_bound h.row) fun k hk => ?_
  obtain ⟨_, hB, hlt, q, hq, cells, hc⟩ := hk
  have hq2 : q = 29 := by
    have : q ∈ [29] := hq
    simpa using this
  subst hq2
  refine ⟨fun e => ?_, fun e => ?_, fun e => ?_, fun e => ?_, hlt⟩
  · subst e; rw [h.st.blk] at hc; cases hc
  · subst e
    obtain ⟨es, c, hm, _⟩ := h.st.map
    rw [hm] at hc
    cases hc
  · rcases h.st.row.2 with ⟨h1, _⟩ | ⟨g', cap, cur, h1, _, h4, _⟩
    · rw [h1] at e; cases e
    · rw [h1] at e
      have e2 : g' = k := Option.some.inj e
      subst e2
      rw [h4] at hc
      cases hc
  · subst e; rw [h.box] at hc; cases hc
theorem Both.ofBelow {w' : World} (h : Both B w wr g bm gq v vq l l2 r r2) (hb : Below wr.heap.size wr w') : Both B w w' g bm gq v vq l l2 r r2 :=
  ⟨h.st.ofBelow hb, h.bel.trans (hb.mono h.sz), (hb.block gq h.ne.2.2.2).trans h.box, Kd.R_below h.row hb, h.gq0, Nat.le_trans h.sz hb.size⟩
/-- Behind the document's Put, and its spool stored. -/
theorem Both.rput {wB : World} {o o2 : Obj} {v0 : Value} {l3 : List E} (h : Both B w wr g bm gq v vq l l2 r r2)
    (hR : Kd.R k29 29 wB B (fun k => QP g bm gq v wr.heap.size k ∨ (wr.alloc o).heap.size ≤ k) v0 (l3.map E.s29)) (hB : Below B w wB) (hK : Kept (wr.alloc o) wB (QP g bm gq v wr.heap.size)) :
    Both B w (((wB.alloc o2).setCell ⟨gq, 0, none⟩ v0).setCell ⟨gq, 1, none⟩ (.bool r2)) g bm gq v v0 l l3 r r2 := by
  have hsz := h.sz
  have hA := h.ofBelow ((Below.refl _ _).alloc (Nat.le_refl _) o)
  have hne := h.ne
  have hltA := hA.st.lt
  have szA : (wr.alloc o).heap.size = wr.heap.size + 1 := by simp
  have stB : St B wB g bm v l r := hA.st.kept hK (fun q => q.1 rfl) (fun q => q.2.1 rfl) (fun k hk q => q.2.2.1 hk)
  have boxB : wB.heap[gq]? = some (.cells #[vq, .bool r2] 41 (0, 0)) := (hK.2 gq hA.ne.2.2.2 (fun q => q.2.2.2.1 rfl)).trans hA.box
  have szB : (wr.alloc o).heap.size ≤ wB.heap.size := hK.1
  have bC := (Below.refl wB.heap.size wB).alloc (Nat.le_refl _) o2
  have boxC : (wB.alloc o2).heap[gq]? = some (.cells #[vq, .bool r2] 41 (0, 0)) := (bC.block gq (by omega)).trans boxB
  have stC := stB.ofBelow bC
  have kD : Kept (wB.alloc o2) (((wB.alloc o2).setCell ⟨gq, 0, none⟩ v0).setCell ⟨gq, 1, none⟩ (.bool r2)) (fun k => k = gq) := ((Kept.refl (wB.alloc o2) (fun k => k = gq)).setCell (p := ⟨gq, 0, none⟩) (.inl rfl) v0).setCell (p := ⟨gq, 1, none⟩) (.inl rfl) (.bool r2)
  have okR : ∀ k, (QP g bm gq v wr.heap.size k ∨ (wr.alloc o).heap.size ≤ k) → k ≠ gq := fun k hk e => by
    rcases hk with hk | hk
    · exact hk.2.2.2.1 e
    · omega
  refine ⟨stC.kept kD (Ne.symm hne.1) (Ne.symm hne.2.1) (fun k hk e => hne.2.2.1 (by rw [← e]; exact hk)), ((hB.alloc (by omega) _).setCell h.gq0 _).setCell h.gq0 _, ?_, ?_, h.gq0, by have := kD.1; have := bC.size; omega⟩
  · have := blk_set (blk_set boxC 0 v0) 1 (.bool r2)
    simpa using this
  · exact Kd.R_mono (Kd.R_far (p := ⟨gq, 1, none⟩) (Kd.R_far (p := ⟨gq, 0, none⟩) (Kd.R_below hR bC) okR v0) okR (.bool r2)) (fun _ _ => trivial)
/-- Behind a way of the spool alone. -/
theorem Both.foot {w' : World} {v' : Value} {l' : List E} {r' : Bool} (h : Both B w wr g bm gq v vq l l2 r r2) (hS : St B w' g bm v' l' r') (hB : Below B w w') (hF : Foot wr g bm v w' v') : Both B w w' g bm gq v' vq l' l2 r' r2 := by
  have hne := h.ne
  refine ⟨hS, hB, (hF.1.2 gq hne.2.2.2 ?_).trans h.box, ?_, h.gq0, Nat.le_trans h.sz hF.1.1⟩
  · rintro (e | e | e)
    · exact hne.1 e
    · exact hne.2.1 e
    · exact hne.2.2.1 e
  · refine Kd.R_mono (Kd.R_step h.rowP fun k hk hlt => hF.1.2 k hlt ?_) (fun _ _ => trivial)
    rintro (e | e | e)
    · exact hk.1 e
    · exact hk.2.1 e
    · exact hk.2.2.1 e
/-- The document's Refuse. -/
theorem Both.rref (h : Both B w wr g bm gq v vq l l2 r r2) (x : Bool) : Both B w (wr.setCell ⟨gq, 1, none⟩ (.bool x)) g bm gq v vq l l2 r x := by
  have hne := h.ne
  have kD : Kept wr (wr.setCell ⟨gq, 1, none⟩ (.bool x)) (fun k => k = gq) := (Kept.refl wr (fun k => k = gq)).setCell (p := ⟨gq, 1, none⟩) (.inl rfl) (.bool x)
  refine ⟨h.st.kept kD (Ne.symm hne.1) (Ne.symm hne.2.1) (fun k hk e => hne.2.2.1 (by rw [← e]; exact hk)), h.bel.setCell h.gq0 _, ?_, ?_, h.gq0, Nat.le_trans h.sz kD.1⟩
  · have := blk_set h.box 1 (.bool x)
    simpa using this
  · exact Kd.R_mono (Kd.R_far (p := ⟨gq, 1, none⟩) h.rowP (fun k hk => hk.2.2.2.1) (.bool x)) (fun _ _ => trivial)
end
theorem c34 {B c : Nat} {w : World} {a : Option Addr} {l : List E} (h : w.ownsRow B 34 4 (.slice a l.length c) l.length (flat l)) (hl : l.length < 1000000) : Kd.C k34 w a (l.map E.s34).length (l.map E.s34) ∧ l.length ≤ c := by
  refine ⟨⟨rfl, by rw [List.length_map]; omega, fun h0 => ?_⟩, ?_⟩
  · rw [List.length_map] at h0
    obtain ⟨g, rfl, hc⟩ := row_at h h0
    refine ⟨_, rfl, fun j q hq => ?_⟩
    rw [List.getElem?_map] at hq
    obtain ⟨e, he, rfl⟩ := Option.map_eq_some_iff.1 hq
    obtain ⟨hj, rfl⟩ := List.getElem?_eq_some_iff.1 he
    refine ⟨_, rfl, k34_mk w _, fun i u hu => ?_⟩
    have hi : i < 4 := by
      rcases Nat.lt_or_ge i 4 with h1 | h1
      · exact h1
      · rw [List.getElem?_eq_none (by simpa using h1)] at hu
        cases hu
    show w.cell? ((⟨g, 0, none⟩ : Addr).add (j * 4 + i)) = some u
    rw [add_zero_at]
    exact hc j hj i u hu hi
  · obtain ⟨a', c', e, hle⟩ := slice_of h
    injection e with _ _ e3
    omega
theorem same_any {B B' c c0 : Nat} {w : World} {a A0 : Option Addr} {ok : Nat → Prop} {l : List E} (h : w.ownsRow B 34 4 (.slice a l.length c) l.length (flat l)) (hq : Kd.R k29 29 w B' ok (.slice A0 l.length c0) (l.map E.s29)) (hl : l.length < 1000000) :
    Calls Try.prog 15 #[.slice a l.length c, .slice A0 l.length c0] w fun e w' => e = .returned (.bool true) ∧ Below w.heap.size w w' := by
  obtain ⟨h1, h2⟩ := c34 h hl
  obtain ⟨_, h3, h4⟩ := Kd.R_reads' hq
  have := bulletinlaw43_Same.calls 2000000 a c (l.map E.s34) A0 c0 (l.map E.s29) true w h1 (by rw [List.length_map]; exact h2) h4 (by rw [List.length_map]; exact h3) (same_f l hl)
  rw [List.length_map, List.length_map] at this
  exact this
theorem rfind_any {B' c0 : Nat} {w : World} {A0 : Option Addr} {ok : Nat → Prop} {l : List E} (hq : Kd.R k29 29 w B' ok (.slice A0 l.length c0) (l.map E.s29)) (hl : l.length < 1000000) (r : Bool) (key : ByteArray) :
    Calls Try.prog 16 #[.agg #[.slice A0 l.length c0, .bool r], .string key] w fun e w' => e = .returned (.tuple #[.agg #[.string (findL l key.data.toList).key, .string (findL l key.data.toList).fr, .string (findL l key.data.toList).dest, .string (findL l key.data.toList).text], .bool (isL l key.data.toList)]) ∧ Below w.heap.size w w' := by
  obtain ⟨h1, h3, h4⟩ := Kd.R_reads' hq
  have := bulletinref43_Find.calls 2000000 A0 c0 (l.map E.s29) r key _ _ _ _ _ w h4 (by rw [← h1]; exact h3) (find_f l hl key r)
  rw [← h1] at this
  exact this
theorem argKeys_of {B' c0 : Nat} {w : World} {A0 : Option Addr} {ok : Nat → Prop} {l : List E} (hq : Kd.R k29 29 w B' ok (.slice A0 l.length c0) (l.map E.s29)) : ArgKeys w A0 l := fun h0 => by
  obtain ⟨g, cap, hv, _, _, _⟩ := Kd.R_form hq (by rw [List.length_map]; exact h0)
  injection hv with e1
  subst e1
  obtain ⟨h1, h3, h4⟩ := Kd.R_reads' hq
  refine ⟨g, rfl, fun i hi => ?_⟩
  obtain ⟨ad, e, hc, _⟩ := at_T29 h4 (i : Int) (by omega) (by rw [← h1]; omega)
  injection e with e
  subst e
  rw [rd29 l i hi, Int.toNat_natCast, add_zero_at] at hc
  exact hc
/-- A row of strings, as the printed words read it. -/
def asB (ss : List (List UInt8)) : List ByteArray := ss.map fun x => ⟨x.toArray⟩
theorem cB {B c n : Nat} {w : World} {a : Option Addr} {ss : List (List UInt8)} (h : w.ownsRow B 9 1 (.slice a n c) n (ss.map encStr)) (hl : ss.length < 1000000) : n = ss.length ∧ Kd.C Kd.string w a (asB ss).length (asB ss) ∧ (asB ss).length ≤ c := by
  have hn : n = ss.length := by have := h.1; simpa using this.symm
  subst hn
  have hlen : (asB ss).length = ss.length := List.length_map _
  refine ⟨rfl, ⟨rfl, by rw [hlen]; omega, fun h0 => ?_⟩, ?_⟩
  · rw [hlen] at h0
    rcases h.2 with ⟨h1, h2⟩ | ⟨g', cap, cur, h1, _⟩
    · omega
    · injection h1 with e1
      subst e1
      refine ⟨_, rfl, fun j q hq => ⟨[.string q], rfl, rfl, fun i u hu => ?_⟩⟩
      have hi : i = 0 := by
        rcases Nat.eq_zero_or_pos i with h1 | h1
        · exact h1
        · rw [List.getElem?_eq_none (by show 1 ≤ i; omega)] at hu
          cases hu
      subst hi
      obtain rfl : Value.string q = u := by simpa using hu
      show w.cell? ((⟨g', 0, none⟩ : Addr).add (j * 1 + 0)) = some (.string q)
      unfold asB at hq
      rw [List.getElem?_map] at hq
      obtain ⟨x, hx, rfl⟩ := Option.map_eq_some_iff.1 hq
      obtain ⟨hj, _⟩ := List.getElem?_eq_some_iff.1 hx
      rw [add_zero_at, Nat.mul_one, Nat.add_zero, h.cellAt j (by omega), List.getElem?_map, hx]
      rfl
  · rw [hlen]
    rcases h.2 with ⟨h1, h2⟩ | ⟨g', cap, cur, h1, _, _, h4, _⟩
    · omega
    · injection h1 with _ _ e3
      omega
theorem texts_any {B B' c c' n n' : Nat} {w : World} {a a' : Option Addr} {ss ss' : List (List UInt8)} (h : w.ownsRow B 9 1 (.slice a n c) n (ss.map encStr)) (h' : w.ownsRow B' 9 1 (.slice a' n' c') n' (ss'.map encStr)) (e : ss' = ss) (hl : ss.length < 1000000) :
    Calls Try.prog 17 #[.slice a n c, .slice a' n' c'] w fun e w' => e = .returned (.bool true) ∧ Below w.heap.size w w' := by
  subst e
  obtain ⟨e1, h1, h2⟩ := cB h hl
  obtain ⟨e3, h3, h4⟩ := cB h' hl
  have hlen : (asB ss').length = ss'.length := List.length_map _
  have := bulletinbook_SameTexts.calls 2000000 a c (asB ss') a' c' (asB ss') true w h1 h2 h3 h4 (texts_f _ (by rw [hlen]; omega))
  rw [hlen, ← e1] at this
  rw [e1, e3] at *
  refine this.mono fun e w' he => ⟨he.1, ?_⟩
  obtain ⟨m, rfl⟩ := he.2
  exact ⟨rfl, rfl, rfl, Nat.le_refl _, fun _ _ => rfl⟩
theorem sliceS_of {B z e : Nat} {w : World} {v : Value} {n : Nat} {xs : List Value} (h : w.ownsRow B e z v n xs) : ∃ a c, v = .slice a n c := by
  rcases h.2 with ⟨h1, h2⟩ | ⟨g', cap, cur, h1, _⟩
  · rw [h2]; exact ⟨_, _, h1⟩
  · exact ⟨_, _, h1⟩
/-- What the last statement reads. -/
structure Ten (B : Nat) (w : World) (g bm gq : Nat) (v vq : Value) (l : List E) (r : Bool) (b1 b2 : Nat) (z : E) (W : World) : Prop where
  both : Both B w W g bm gq v vq l l r r
  x1 : W.heap[b1]? = some (.cells #[.string z.key, .string z.fr, .string z.dest, .string z.text] 34 (0, 0))
  x2 : W.heap[b2]? = some (.cells #[.string z.key, .string z.fr, .string z.dest, .string z.text] 29 (0, 0))
theorem Ten.below {B : Nat} {w W W' : World} {g bm gq b1 b2 : Nat} {v vq : Value} {l : List E} {r : Bool} {z : E} (h : Ten B w g bm gq v vq l r b1 b2 z W) (hb : Below W.heap.size W W') : Ten B w g bm gq v vq l r b1 b2 z W' :=
  ⟨h.both.ofBelow hb, (hb.block b1 (Array.getElem?_eq_some_iff.1 h.x1).1).trans h.x1, (hb.block b2 (Array.getElem?_eq_some_iff.1 h.x2).1).trans h.x2⟩
theorem Ten.cells {B : Nat} {w W : World} {g bm gq b1 b2 : Nat} {v vq : Value} {l : List E} {r : Bool} {z : E} (h : Ten B w g bm gq v vq l r b1 b2 z W) :
    W.cell? ⟨b1, 0, none⟩ = some (.string z.key) ∧ W.cell? ⟨b1, 1, none⟩ = some (.string z.fr) ∧ W.cell? ⟨b1, 2, none⟩ = some (.string z.dest) ∧ W.cell? ⟨b1, 3, none⟩ = some (.string z.text) ∧
    W.cell? ⟨b2, 0, none⟩ = some (.string z.key) ∧ W.cell? ⟨b2, 1, none⟩ = some (.string z.fr) ∧ W.cell? ⟨b2, 2, none⟩ = some (.string z.dest) ∧ W.cell? ⟨b2, 3, none⟩ = some (.string z.text) ∧
    W.cell? ⟨gq, 0, none⟩ = some vq ∧ W.cell? ⟨gq, 1, none⟩ = some (.bool r) :=
  ⟨blk_cell h.x1 0, blk_cell h.x1 1, blk_cell h.x1 2, blk_cell h.x1 3, blk_cell h.x2 0, blk_cell h.x2 1, blk_cell h.x2 2, blk_cell h.x2 3, blk_cell h.both.box 0, blk_cell h.both.box 1⟩
theorem eql_self (w : World) (a b c d : ByteArray) : (binOp .eql 34 (.agg #[.string a, .string b, .string c, .string d]) (.agg #[.string a, .string b, .string c, .string d])).run Try.prog w = .ok (.bool true) w := by
  rw [run_eql_struct, eqA34 9998]
  simp [Result.andThen]
def RP (B : Nat) (w : World) (g bm gq : Nat) (l : List A) (i : Value) (wr : World) : Prop :=
  ∃ (k : Nat) (v vq : Value), k ≤ l.length ∧ k ≤ 40 ∧ i = .int .i64 k ∧ Both B w wr g bm gq v vq (plays (l.take k) ([], false)).1 (plays (l.take k) ([], false)).1 (plays (l.take k) ([], false)).2 (plays (l.take k) ([], false)).2
set_option maxRecDepth 100000 in
set_option maxHeartbeats 4000000 in
theorem plays_walk {w : World} (Al : Option Addr) (cl : Nat) (l : List A) (key pre : ByteArray) (hl : ArgActs w Al l) (kl : Keyd l) (kk : key.size ≤ maxLen) (nl : l.length ≤ 9223372036854775807) :
    Calls Try.prog 4 #[.slice Al l.length cl, .string key, .string pre] w fun e w' => e = .returned (.bool true) ∧ Below w.heap.size w w' := by
  go_enter Try.func4, Try.ntmps4
  go_wp2_with (fail)
  (go_at_call 6; (with_reducible refine (new_any w.heap.size w w (Below.refl _ _) (Nat.le_refl _)).mono ?_); rintro e w2 ⟨g, bm, rfl, hS2, hb2, -, -, -⟩)
  go_wp2_with (fail)
  obtain ⟨gq, hgq⟩ : ∃ gq, gq = w2.heap.size := ⟨_, rfl⟩
  have b0 : Both w.heap.size w (w2.alloc (.cells #[.slice none 0 0, .bool false] 41)) g bm gq (.slice none 0 0) (.slice none 0 0) [] [] false false := by
    have bx := (Below.refl w2.heap.size w2).alloc (Nat.le_refl _) (.cells #[.slice none 0 0, .bool false] 41)
    exact ⟨hS2.ofBelow bx, hb2.trans (bx.mono hb2.size), by rw [hgq]; exact heap_alloc_new w2 _, Kd.R_nil _ _ _ _ _, by rw [hgq]; exact hb2.size, Nat.le_trans hb2.size bx.size⟩
  rw [← hgq]
  go_loopw [9] (fun i wr => RP w.heap.size w g bm gq l i wr) (fun i _ => l.length - (intOf i).toNat)
  case atStart => exact ⟨0, _, _, Nat.zero_le _, by omega, rfl, b0⟩
  case round =>
    clear b0 hS2 hb2 hgq
    obtain ⟨k, v, vq, hk, hk40, rfl, hB⟩ := hrel
    have hU : Uniq (plays (l.take k) ([], false)).1 := plays_uniq _ (by simp [Uniq])
    have hL : (plays (l.take k) ([], false)).1.length ≤ 40 := by have := plays_len (l.take k) ([], false); simp at this; omega
    obtain ⟨s0, hs0⟩ : ∃ s0, s0 = (plays (l.take k) ([], false)).1 := ⟨_, rfl⟩
    obtain ⟨r0, hr0⟩ : ∃ r0, r0 = (plays (l.take k) ([], false)).2 := ⟨_, rfl⟩
    rw [← hs0, ← hr0] at hB
    rw [← hs0] at hU hL
    have HS := Lib.hid hs0
    have HR := Lib.hid hr0
    clear hs0 hr0
    by_cases hlt : k < l.length ∧ k < 40
    · obtain ⟨h1, h2⟩ := hlt
      obtain ⟨bl, ol, rfl, hbl, hl⟩ := hl (by omega)
      have cj : ∀ j u, (l[k].cells)[j]? = some u → wr.cell? ⟨bl, ol + k * 6 + j, none⟩ = some u := fun j u hu => (hB.bel.cell (p := ⟨bl, ol + k * 6 + j, none⟩) hbl).trans (hl k h1 j u hu)
      have x0 : wr.cell? ⟨bl, ol + k * 6, none⟩ = some (.int .i64 l[k].kind) := cj 0 _ rfl
      have x1 : wr.cell? ⟨bl, ol + k * 6 + 1, none⟩ = some (.string l[k].e.key) := cj 1 _ rfl
      have x2 : wr.cell? ⟨bl, ol + k * 6 + 2, none⟩ = some (.string l[k].e.fr) := cj 2 _ rfl
      have x3 : wr.cell? ⟨bl, ol + k * 6 + 3, none⟩ = some (.string l[k].e.dest) := cj 3 _ rfl
      have x4 : wr.cell? ⟨bl, ol + k * 6 + 4, none⟩ = some (.string l[k].e.text) := cj 4 _ rfl
      have x5 : wr.cell? ⟨bl, ol + k * 6 + 5, none⟩ = some (.bool l[k].is) := cj 5 _ rfl
      have hkk := kl _ (List.getElem_mem h1)
      clear cj
      have bA : ∀ o, Below wr.heap.size wr (wr.alloc o) := fun o => (Below.refl _ _).alloc (Nat.le_refl _) o
      have q0 : ∀ o, (wr.alloc o).cell? ⟨gq, 0, none⟩ = some vq := fun o => (World.cell?_of_block ((bA o).block gq hB.ne.2.2.2)).trans (blk_cell hB.box 0)
      have q1 : ∀ o, (wr.alloc o).cell? ⟨gq, 1, none⟩ = some (.bool r0) := fun o => (World.cell?_of_block ((bA o).block gq hB.ne.2.2.2)).trans (blk_cell hB.box 1)
      by_cases e0 : l[k].kind = 0
      · rw [e0] at x0
        go_wp2_with (fail)
        (go_at_call 11; refine (bulletinref43_Put.calls 2000000 (QP g bm gq v wr.heap.size) vq (s0.map E.s29) r0 l[k].e.key l[k].e.fr l[k].e.dest l[k].e.text _ _ _ w _ (hB.bel.alloc hB.sz _) (Kd.R_below hB.rowP (bA _)) (put_f s0 (by omega) l[k].e r0)).mono ?_; rintro e wB ⟨v0, rfl, hR, hbB, hKB⟩)
        obtain ⟨A0, c0, hv0⟩ := Kd.R_slice hR
        rw [List.length_map] at hv0
        have szA : ∀ o, (wr.alloc o).heap.size = wr.heap.size + 1 := fun o => by simp
        have hnq := hB.ne
        have szB := hKB.1
        rw [szA] at szB
        have bxB : wB.heap[gq]? = some (.cells #[vq, .bool r0] 41 (0, 0)) := (hKB.2 gq (by rw [szA]; omega) (fun q => q.2.2.2.1 rfl)).trans (((bA _).block gq hnq.2.2.2).trans hB.box)
        have acB : wB.heap[wr.heap.size]? = some (.cells #[.int .i64 0, .string l[k].e.key, .string l[k].e.fr, .string l[k].e.dest, .string l[k].e.text, .bool l[k].is] 31 (0, 0)) :=
          (hKB.2 wr.heap.size (by rw [szA]; omega) (fun q => Nat.lt_irrefl _ q.2.2.2.2)).trans (heap_alloc_new wr _)
        have hDD := fun o2 => hB.rput (o2 := o2) hR hbB hKB
        have blk2 : ∀ (o2 : Obj) (kk : Nat), kk < wB.heap.size → (wB.alloc o2).heap[kk]? = wB.heap[kk]? := fun o2 kk h => Below.heap_alloc wB o2 kk h
        have p0 : ∀ o2, (wB.alloc o2).cell? ⟨gq, 0, none⟩ = some vq := fun o2 => (World.cell?_of_block (blk2 o2 gq (by omega))).trans (blk_cell bxB 0)
        have p1 : ∀ o2, (wB.alloc o2).cell? ⟨gq, 1, none⟩ = some (.bool r0) := fun o2 => (World.cell?_of_block (blk2 o2 gq (by omega))).trans (blk_cell bxB 1)
        have pf : ∀ o2 j, (wB.alloc o2).frozen? ⟨gq, j, none⟩ = false := fun o2 j => by
          have := (blk2 o2 gq (by omega)).trans bxB
          exact blk_frozen this j
        have acC : ∀ o2, (wB.alloc o2).heap[wr.heap.size]? = some (.cells #[.int .i64 0, .string l[k].e.key, .string l[k].e.fr, .string l[k].e.dest, .string l[k].e.text, .bool l[k].is] 31 (0, 0)) := fun o2 => (blk2 o2 _ (by omega)).trans acB
        have a1 := fun o2 => (blk_cell (acC o2) 1).trans rfl
        have a2 := fun o2 => (blk_cell (acC o2) 2).trans rfl
        have a3 := fun o2 => (blk_cell (acC o2) 3).trans rfl
        have a4 := fun o2 => (blk_cell (acC o2) 4).trans rfl
        subst hv0
        clear q0 q1 x0 x1 x2 x3 x4 x5 hR hbB hKB bxB acB acC blk2
        go_wp2_with (fail)
        (go_at_call 13; (with_reducible refine (to_any l[k].e).mono ?_); rintro e wE ⟨rfl, hbE⟩)
        have hE := (hDD _).ofBelow hbE
        go_wp2_with (fail)
        (go_at_call 12; (with_reducible refine (put_any hE.st hE.bel hE.sz l[k].e hkk (by omega)).mono ?_); rintro e wF ⟨v1, rfl, hSF, hBF, hFF⟩)
        have hF := hE.foot hSF hBF hFF
        obtain ⟨s1, hs1⟩ : ∃ s1, s1 = putList s0 r0 l[k].e := ⟨_, rfl⟩
        rw [← hs1] at hF
        have hs1l : s1.length ≤ 41 := by
          obtain ⟨x, hx, hxl⟩ := put_more s0 r0 l[k].e
          rw [hs1, hx, List.length_append]
          omega
        have HS1 := Lib.hid hs1
        clear hDD hE hbE hSF hBF hFF p0 p1 pf a1 a2 a3 a4 szA szB bA hB hnq
        go_wp2_with (fail)
        rw [← hs1]
        clear hs1
        have qz : wF.cell? ⟨gq, 0, none⟩ = some (.slice A0 s1.length c0) := blk_cell hF.box 0
        have hkq := hF.ne
        go_region_held3 (fun w' => w'.cell? ⟨gq, 0, none⟩ = some (.slice A0 s1.length c0)) (go_keep) (first
          | (go_at_call 8; refine (all_any (by omega) (hF.st.ofBelow ((Below.refl _ _).drew))).mono ?_; rintro e wG ⟨va, rfl, hbG, hG⟩; obtain ⟨aa, ca, rfl, _⟩ := slice_of hG; have hbG2 := ((Below.refl wF.heap.size wF).drew).trans hbG; have hHG := hF.ofBelow hbG2; have qzG : wG.cell? ⟨gq, 0, none⟩ = some (.slice A0 s1.length c0) := blk_cell hHG.box 0)
          | (go_at_call 15; refine (same_any hG hHG.row (by omega)).mono ?_; rintro e wH ⟨rfl, hbH⟩; have hHH := hHG.ofBelow hbH; have qzH : wH.cell? ⟨gq, 0, none⟩ = some (.slice A0 s1.length c0) := blk_cell hHH.box 0)
          | (go_at_call 10; refine (len_any hHH.st).mono ?_; rintro e wI ⟨rfl, rfl⟩))
        go_wp2_with (fail)
        go_roundw
        case rel =>
          refine ⟨k + 1, v1, .slice A0 s1.length c0, by omega, by omega, by go_num, ?_⟩
          rw [take_snoc l k h1, plays_snoc, ← HS.out, ← HR.out]
          have e1 : A.list s0 r0 l[k] = s1 := by rw [HS1.out]; simp [A.list, e0]
          have e2 : A.ref r0 l[k] = r0 := by simp [A.ref, e0]
          show Both _ _ _ _ _ _ _ _ (A.list s0 r0 l[k]) (A.list s0 r0 l[k]) (A.ref r0 l[k]) (A.ref r0 l[k])
          rw [e1, e2]
          exact hHH
        case measure => simp [intOf]; omega
      · have n0 : (l[k].kind == 0) = false := by simpa using e0
        obtain ⟨s1, hs1⟩ : ∃ s1, s1 = s0 := ⟨_, rfl⟩
        obtain ⟨A0, c0, hvq⟩ := Kd.R_slice hB.row
        rw [List.length_map] at hvq
        subst hvq
        have hs1l : s1.length ≤ 41 := by rw [hs1]; omega
        have HS1 := Lib.hid hs1
        obtain ⟨v1, hv1⟩ : ∃ v1, v1 = v := ⟨_, rfl⟩
        have HV1 := Lib.hid hv1
        rw [← hs1, ← hv1] at hB
        rw [← hs1] at q0
        clear hs1 hv1
        have hA := fun o => hB.ofBelow (bA o)
        have szA : ∀ o, (wr.alloc o).heap.size = wr.heap.size + 1 := fun o => by simp
        have hnq := hB.ne
        go_wp2_with (fail)
        (go_at_call 14; (with_reducible refine (refuse_any (hA _).st (hA _).bel l[k].is).mono ?_); rintro e wE ⟨rfl, hSE, hBE, hKE⟩)
        have hE := (hA _).foot hSE hBE ⟨⟨hKE.1, fun kk hk hS => hKE.2 kk hk (fun e => hS (.inl e))⟩, fun kk hk => .inl hk⟩
        have szE := hKE.1
        rw [szA] at szE
        have acE : wE.heap[wr.heap.size]? = some (.cells #[.int .i64 l[k].kind, .string l[k].e.key, .string l[k].e.fr, .string l[k].e.dest, .string l[k].e.text, .bool l[k].is] 31 (0, 0)) :=
          (hKE.2 wr.heap.size (by rw [szA]; omega) (fun e => by have := hB.st.lt.1; omega)).trans (heap_alloc_new wr _)
        have a5 : wE.cell? ⟨wr.heap.size, 5, none⟩ = some (.bool l[k].is) := (blk_cell acE 5).trans rfl
        have p1 : wE.cell? ⟨gq, 1, none⟩ = some (.bool r0) := blk_cell hE.box 1
        have pf : wE.frozen? ⟨gq, 1, none⟩ = false := blk_frozen hE.box 1
        have hFF := hE.rref l[k].is
        clear hE hSE hBE hKE szE acE hA szA hnq q0 q1 bA x0 x1 x2 x3 x4 x5
        go_wp2_with (fail)
        obtain ⟨wF, hwF⟩ : ∃ wF, wF = wE.setCell ⟨gq, 1, none⟩ (.bool l[k].is) := ⟨_, rfl⟩
        rw [← hwF] at hFF ⊢
        have hF := hFF
        clear hwF hFF a5 p1 pf
        have qz : wF.cell? ⟨gq, 0, none⟩ = some (.slice A0 s1.length c0) := blk_cell hF.box 0
        have hkq := hF.ne
        go_region_held3 (fun w' => w'.cell? ⟨gq, 0, none⟩ = some (.slice A0 s1.length c0)) (go_keep) (first
          | (go_at_call 8; refine (all_any (by omega) (hF.st.ofBelow ((Below.refl _ _).drew))).mono ?_; rintro e wG ⟨va, rfl, hbG, hG⟩; obtain ⟨aa, ca, rfl, _⟩ := slice_of hG; have hbG2 := ((Below.refl wF.heap.size wF).drew).trans hbG; have hHG := hF.ofBelow hbG2; have qzG : wG.cell? ⟨gq, 0, none⟩ = some (.slice A0 s1.length c0) := blk_cell hHG.box 0)
          | (go_at_call 15; refine (same_any hG hHG.row (by omega)).mono ?_; rintro e wH ⟨rfl, hbH⟩; have hHH := hHG.ofBelow hbH; have qzH : wH.cell? ⟨gq, 0, none⟩ = some (.slice A0 s1.length c0) := blk_cell hHH.box 0)
          | (go_at_call 10; refine (len_any hHH.st).mono ?_; rintro e wI ⟨rfl, rfl⟩))
        go_wp2_with (fail)
        go_roundw
        case rel =>
          refine ⟨k + 1, v1, .slice A0 s1.length c0, by omega, by omega, by go_num, ?_⟩
          rw [take_snoc l k h1, plays_snoc, ← HS.out, ← HR.out]
          have e1 : A.list s0 r0 l[k] = s1 := by rw [HS1.out]; simp [A.list, e0]
          have e2 : A.ref r0 l[k] = l[k].is := by simp [A.ref, e0]
          show Both _ _ _ _ _ _ _ _ (A.list s0 r0 l[k]) (A.list s0 r0 l[k]) (A.ref r0 l[k]) (A.ref r0 l[k])
          rw [e1, e2]
          exact hHH
        case measure => simp [intOf]; omega
    · obtain ⟨A0, c0, hvq⟩ := Kd.R_slice hB.row
      rw [List.length_map] at hvq
      subst hvq
      clear hl kl
      go_wp2_with (fail)
      all_goals
        (go_at_call 9; (with_reducible refine (find_any hB.st hU key kk).mono ?_); rintro e w3 ⟨rfl, hb3⟩)
        obtain ⟨z0, hz0⟩ : ∃ z0, z0 = findL s0 key.data.toList := ⟨_, rfl⟩
        obtain ⟨is0, his0⟩ : ∃ is0, is0 = isL s0 key.data.toList := ⟨_, rfl⟩
        rw [← hz0, ← his0]
        have HZ := Lib.hid hz0
        have HI := Lib.hid his0
        clear hz0 his0
        have h3 := hB.ofBelow hb3
        have q0 : ∀ o, (w3.alloc o).cell? ⟨gq, 0, none⟩ = some (.slice A0 s0.length c0) := fun o => (World.cell?_of_block (Below.heap_alloc w3 o gq h3.ne.2.2.2)).trans (blk_cell h3.box 0)
        have q1 : ∀ o, (w3.alloc o).cell? ⟨gq, 1, none⟩ = some (.bool r0) := fun o => (World.cell?_of_block (Below.heap_alloc w3 o gq h3.ne.2.2.2)).trans (blk_cell h3.box 1)
        go_wp2_with (fail)
        have b4 := (Below.refl w3.heap.size w3).alloc (Nat.le_refl _) (Obj.cells #[.string z0.key, .string z0.fr, .string z0.dest, .string z0.text] 34)
        (go_at_call 16; (with_reducible refine (rfind_any (Kd.R_below h3.row b4) (by omega) r0 key).mono ?_); rintro e w5 ⟨rfl, hb5⟩)
        rw [← HZ.out, ← HI.out]
        have h5 := (h3.ofBelow b4).ofBelow hb5
        have sz4 : (w3.alloc (Obj.cells #[.string z0.key, .string z0.fr, .string z0.dest, .string z0.text] 34)).heap.size = w3.heap.size + 1 := by simp
        have bx1 : w5.heap[w3.heap.size]? = some (.cells #[.string z0.key, .string z0.fr, .string z0.dest, .string z0.text] 34 (0, 0)) := (hb5.block w3.heap.size (by rw [sz4]; omega)).trans (heap_alloc_new w3 _)
        clear q0 q1 h3 hb3 b4 sz4 hb5 hB hlt
        go_wp2_with (fail)
        have b6 := (Below.refl w5.heap.size w5).alloc (Nat.le_refl _) (Obj.cells #[.string z0.key, .string z0.fr, .string z0.dest, .string z0.text] 29)
        obtain ⟨b1, hb1⟩ : ∃ b1, b1 = w3.heap.size := ⟨_, rfl⟩
        obtain ⟨b2, hb2⟩ : ∃ b2, b2 = w5.heap.size := ⟨_, rfl⟩
        have t6 : Ten w.heap.size w g bm gq v (.slice A0 s0.length c0) s0 r0 b1 b2 z0 (w5.alloc (Obj.cells #[.string z0.key, .string z0.fr, .string z0.dest, .string z0.text] 29)) :=
          ⟨h5.ofBelow b6, by rw [hb1]; exact (b6.block _ (Array.getElem?_eq_some_iff.1 bx1).1).trans bx1, by rw [hb2]; exact heap_alloc_new w5 _⟩
        rw [← hb1, ← hb2]
        generalize w5.alloc (Obj.cells #[.string z0.key, .string z0.fr, .string z0.dest, .string z0.text] 29) = w6 at t6 ⊢
        clear b6 h5 bx1 hb1 hb2
        obtain ⟨y0, y1, y2, y3, y4, y5, y6, y7, y8, y9⟩ := t6.cells
        have heq := fun w' => eql_self w' z0.key z0.fr z0.dest z0.text
        have hlS : (sorted (kf s0 pre.data.toList)).length < 1000000 := by
          have h8 := kf_len s0 pre.data.toList
          have h9 : (sorted (kf s0 pre.data.toList)).length = (kf s0 pre.data.toList).length := by simp [sorted]
          omega
        have t7 := t6.below ((Below.refl _ _).drew)
        go_region_held3 (fun w' => w'.cell? ⟨b1, 0, none⟩ = some (.string z0.key) ∧ w'.cell? ⟨b1, 1, none⟩ = some (.string z0.fr) ∧ w'.cell? ⟨b1, 2, none⟩ = some (.string z0.dest) ∧ w'.cell? ⟨b1, 3, none⟩ = some (.string z0.text) ∧ w'.cell? ⟨b2, 0, none⟩ = some (.string z0.key) ∧ w'.cell? ⟨b2, 1, none⟩ = some (.string z0.fr) ∧ w'.cell? ⟨b2, 2, none⟩ = some (.string z0.dest) ∧ w'.cell? ⟨b2, 3, none⟩ = some (.string z0.text) ∧ w'.cell? ⟨gq, 0, none⟩ = some (.slice A0 s0.length c0) ∧ w'.cell? ⟨gq, 1, none⟩ = some (.bool r0)) (go_keep) (first
          | (go_at_call 13; refine (to_any z0).mono ?_; rintro e wG ⟨rfl, hbG⟩; have t8 := t7.below hbG; obtain ⟨a0, a1, a2, a3, a4, a5, a6, a7, a8, a9⟩ := t8.cells)
          | (go_at_call 18; refine (keys_any t8.both.st (by omega) pre).mono ?_; rintro e wH ⟨vk, rfl, hbH, hkO⟩; obtain ⟨ak, ck, rfl⟩ := sliceS_of hkO; have t9 := t8.below hbH; obtain ⟨d0, d1, d2, d3, d4, d5, d6, d7, d8, d9⟩ := t9.cells)
          | (go_at_call 19; refine (rkeys_any (argKeys_of t9.both.row) (by omega) pre).mono ?_; rintro e wI ⟨vr, rfl, hbI, hrO⟩; obtain ⟨ar, cr, rfl⟩ := sliceS_of hrO; have t10 := t9.below hbI; have hkO2 := rowE_below hkO hbI; obtain ⟨f0, f1, f2, f3, f4, f5, f6, f7, f8, f9⟩ := t10.cells)
          | (go_at_call 17; refine (texts_any hkO2 hrO (rk_eq s0 pre.data.toList) hlS).mono ?_; rintro e wJ ⟨rfl, hbJ⟩; have t11 := t10.below hbJ; obtain ⟨g0, g1, g2, g3, g4, g5, g6, g7, g8, g9⟩ := t11.cells)
          | (go_at_call 5; refine (works_any).mono ?_; rintro e wK ⟨rfl, hbK⟩; have t12 := t11.below hbK; obtain ⟨i0, i1, i2, i3, i4, i5, i6, i7, i8, i9⟩ := t12.cells))
        go_wp2_with (fail)
        go_ret
        exact ⟨rfl, t12.both.bel⟩
end Go.Proofs.Ytbifmgenljjleaa.Sp
