-- Texts of this session put together by a program of it (wip/pack.py).
import Derived.Test.YtpniccllpfonfaaGreatDoorProg
import Derived.Test.YtpniccllpfonfaaGreatDoorKWAll
import Derived.Maps.AppendAt
import Derived.Carry
import Derived.WalkKit
import Derived.KernelRfl
import Derived.Lib.Hide
import Derived.LoopTactic
import Derived.Deep.QuietTactic
import Derived.BigQuiet
import Derived.Deep.RegionHeld3
import Derived.Deep.RegionLaw
import Derived.Deep.AppendLies
import Derived.WalkLawsBesides
import Derived.Sort.Walk0
import Derived.Test.YtpniccllpfonfaaGreatDoorKQ4
import Derived.Test.YtpniccllpfonfaaGreatDoorKBase
import Derived.OwnWalk
import Derived.Laws.MakeOwn
import Derived.Deep.DeepMust
import Derived.Outline
import Derived.Test.YtpniccllpfonfaaGreatDoorKQ5
import Derived.Great.Walk
namespace Go.Proofs.YtpniccllpfonfaaGreatDoor.Wd
open Go Go.RowKit Go.Proofs.YtpniccllpfonfaaGreatDoorW.PrintWords
structure Turn (w w' : World) (S : Nat → Prop) : Prop where
  os : w'.os = w.os
  tape : w'.tape = w.tape
  output : w'.output = w.output
  kept : Kept w w' S
theorem Turn.refl (w : World) (S : Nat → Prop) : Turn w w S := ⟨rfl, rfl, rfl, Kept.refl w S⟩
theorem Turn.of_below {w w' : World} (h : Below w.heap.size w w') (S : Nat → Prop) : Turn w w' S := ⟨h.os, h.tape, h.output, Kept.of_below h S⟩
theorem Turn.mono {w w' : World} {S T : Nat → Prop} (h : Turn w w' S) (hs : ∀ k, S k → T k) : Turn w w' T := ⟨h.os, h.tape, h.output, h.kept.mono hs⟩
theorem Turn.then_ {w w1 w2 : World} {S T : Nat → Prop} (h : Turn w w1 S) (k : Turn w1 w2 T) (hs : ∀ k, T k → S k ∨ w.heap.size ≤ k) : Turn w w2 S :=
  ⟨k.os.trans h.os, k.tape.trans h.tape, k.output.trans h.output, h.kept.then_ k.kept hs⟩
theorem Turn.setCell {w w' : World} {S : Nat → Prop} (h : Turn w w' S) {p : Addr} (hp : S p.block ∨ w.heap.size ≤ p.block) (u : Value) : Turn w (w'.setCell p u) S :=
  ⟨h.os, h.tape, h.output, h.kept.setCell hp u⟩
theorem Turn.alloc {w w' : World} {S : Nat → Prop} (h : Turn w w' S) (o : Obj) : Turn w (w'.alloc o) S := ⟨h.os, h.tape, h.output, h.kept.alloc o⟩
theorem Turn.drew {w w' : World} {S : Nat → Prop} (h : Turn w w' S) : Turn w w'.drew S := ⟨h.os, h.tape, h.output, h.kept⟩
theorem Turn.grown {w w' w2 : World} {S : Nat → Prop} {row : Option Nat} (h : Turn w w' S) (hg : w'.grownBy w2 row) (hr : ∀ k, row = some k → S k ∨ w.heap.size ≤ k) : Turn w w2 S :=
  ⟨hg.os.trans h.os, hg.tape.trans h.tape, hg.output.trans h.output, h.kept.of_grown hg hr⟩
theorem Turn.size {w w' : World} {S : Nat → Prop} (h : Turn w w' S) : w.heap.size ≤ w'.heap.size := h.kept.1
theorem Turn.block {w w' : World} {S : Nat → Prop} (h : Turn w w' S) {k : Nat} (hk : k < w.heap.size) (hS : ¬ S k) : w'.heap[k]? = w.heap[k]? := h.kept.2 k hk hS
theorem Turn.below {B : Nat} {w0 w w' : World} {S : Nat → Prop} (h : Turn w w' S) (hB : Below B w0 w) (hs : B ≤ w.heap.size) (hS : ∀ k, S k → B ≤ k) : Below B w0 w' :=
  hB.trans ⟨h.os, h.tape, h.output, h.size, fun k hk => h.kept.2 k (by omega) (fun hS' => by have := hS k hS'; omega)⟩
def Grow (w : World) (v v' : Value) : Prop := ∀ k, v'.ownBlock = some k → v.ownBlock = some k ∨ w.heap.size ≤ k
theorem Grow.refl (w : World) (v : Value) : Grow w v v := fun _ h => .inl h
theorem Grow.then_ {w w' : World} {v v1 v2 : Value} (h : Grow w v v1) (k : Grow w' v1 v2) (hs : w.heap.size ≤ w'.heap.size) : Grow w v v2 := fun b hb => by
  rcases k b hb with h1 | h1
  · exact h b h1
  · exact .inr (by omega)
theorem rowE_of {w w' : World} {B e z n : Nat} {v : Value} {xs : List Value} (h : w.ownsRow B e z v n xs) (hk : ∀ k, v.ownBlock = some k → w'.heap[k]? = w.heap[k]?) : w'.ownsRow B e z v n xs := by
  refine ⟨h.1, ?_⟩
  rcases h.2 with h2 | ⟨g, cap, cur, h2, h3, h4, h5⟩
  · exact .inl h2
  · exact .inr ⟨g, cap, cur, h2, h3, (hk g (by rw [h2]; rfl)).trans h4, h5⟩
theorem rowE_below {w w' : World} {B e z n : Nat} {v : Value} {xs : List Value} (h : w.ownsRow B e z v n xs) (hk : Below w.heap.size w w') : w'.ownsRow B e z v n xs :=
  rowE_of h (fun k e => hk.block k (h.lt k e).2)
theorem rowE_turn {w w' : World} {B e z n : Nat} {v : Value} {xs : List Value} {S : Nat → Prop} (h : w.ownsRow B e z v n xs) (hk : Turn w w' S) (hS : ∀ k, v.ownBlock = some k → ¬ S k) : w'.ownsRow B e z v n xs :=
  rowE_of h (fun k e => hk.block (h.lt k e).2 (hS k e))
theorem rowE_base {w : World} {B C e z n : Nat} {v : Value} {xs : List Value} (h : w.ownsRow C e z v n xs) (hB : B ≤ C) : w.ownsRow B e z v n xs := by
  refine ⟨h.1, ?_⟩
  rcases h.2 with h2 | ⟨g, cap, cur, h2, h3, h4⟩
  · exact .inl h2
  · exact .inr ⟨g, cap, cur, h2, Nat.le_trans hB h3, h4⟩
theorem sliceE_of {B e z : Nat} {w : World} {v : Value} {n : Nat} {xs : List Value} (h : w.ownsRow B e z v n xs) : ∃ a c, v = .slice a n c ∧ n ≤ c := by
  rcases h.2 with ⟨h1, h2⟩ | ⟨g', cap, cur, h1, _, _, h4, _⟩
  · rw [h2]; exact ⟨_, _, h1, Nat.le_refl _⟩
  · exact ⟨_, _, h1, h4⟩
theorem rowE_at {w : World} {B e z n c : Nat} {a : Option Addr} {xs : List Value} (h : w.ownsRow B e z (.slice a n c) n xs) (hn : 0 < n) :
    ∃ g cur, a = some ⟨g, 0, none⟩ ∧ B ≤ g ∧ w.heap[g]? = some (.cells cur e (0, 0)) ∧ c * z = cur.size ∧ ∀ i u, xs[i]? = some u → w.cell? ⟨g, i, none⟩ = some u := by
  rcases h.2 with ⟨h1, h2⟩ | ⟨g', cap, cur, h1, h3, h4, h5, h6, h7, h8⟩
  · omega
  · injection h1 with e1 _ e3
    subst e1
    subst e3
    refine ⟨g', cur, rfl, h3, h4, h7.symm, fun i u hu => ?_⟩
    have hi : i < n * z := by
      have := (List.getElem?_eq_some_iff.1 hu).1
      rw [h.1] at this
      exact this
    rw [h.cellAt i hi, hu]
theorem rowE_apart {w : World} {B B' e e' z z' n n' : Nat} {v v' : Value} {xs xs' : List Value} (h : w.ownsRow B e z v n xs) (h' : w.ownsRow B' e' z' v' n' xs') (he : e ≠ e') : ∀ k, v.ownBlock = some k → v'.ownBlock ≠ some k := fun k hk hk' => by
  rcases h.2 with ⟨h1, _⟩ | ⟨g, cap, cur, h1, _, h4, _⟩
  · rw [h1] at hk; cases hk
  · rcases h'.2 with ⟨h1', _⟩ | ⟨g', cap', cur', h1', _, h4', _⟩
    · rw [h1'] at hk'; cases hk'
    · rw [h1] at hk
      rw [h1'] at hk'
      have e1 : g = k := Option.some.inj hk
      have e2 : g' = k := Option.some.inj hk'
      subst e1
      subst e2
      rw [h4] at h4'
      injection h4' with h4'
      injection h4' with _ h5
      exact he h5
theorem rowE_ne {w : World} {B e z n g t : Nat} {v : Value} {xs : List Value} {cs : Array Value} (h : w.ownsRow B e z v n xs) (hb : w.heap[g]? = some (.cells cs t (0, 0))) (he : e ≠ t) : v.ownBlock ≠ some g := fun hk => by
  rcases h.2 with ⟨h1, _⟩ | ⟨g', cap, cur, h1, _, h4, _⟩
  · rw [h1] at hk; cases hk
  · rw [h1] at hk
    have e1 : g' = g := Option.some.inj hk
    subst e1
    rw [h4] at hb
    injection hb with hb
    injection hb with _ h5
    exact he h5
theorem rowE_set {w : World} {B e z n c g i : Nat} {xs : List Value} (h : w.ownsRow B e z (.slice (some ⟨g, 0, none⟩) n c) n xs) (u : Value) (_hi : i < n * z) :
    (w.setCell ⟨g, i, none⟩ u).ownsRow B e z (.slice (some ⟨g, 0, none⟩) n c) n (xs.set i u) := by
  refine ⟨by rw [List.length_set]; exact h.1, ?_⟩
  rcases h.2 with ⟨h1, _⟩ | ⟨g', cap, cur, h1, h3, h4, h5, h6, h7, h8⟩
  · cases h1
  · injection h1 with e1 _ e3
    injection e1 with e1
    injection e1 with e1
    subst e1
    subst e3
    exact .inr ⟨g, c, _, rfl, h3, blk_set h4 i u, h5, h6, by simpa using h7, by rw [Array.toList_setIfInBounds, ← h8, List.take_set]⟩
theorem add_at (g j t : Nat) : (⟨g, j, none⟩ : Addr).add t = ⟨g, j + t, none⟩ := by
  unfold Addr.add
  split
  · rename_i h
    have : t = 0 := by simpa using h
    subst this
    rfl
  · rfl
theorem add_zero_at (g t : Nat) : (⟨g, 0, none⟩ : Addr).add t = ⟨g, t, none⟩ := by
  rw [add_at, Nat.zero_add]
theorem two_new (w : World) (o o' : Obj) : ((w.alloc o).alloc o').heap[w.heap.size + 1]? = some o' := by
  have := heap_alloc_new (w.alloc o) o'
  rwa [show (w.alloc o).heap.size = w.heap.size + 1 by simp] at this
theorem size_alloc (w : World) (o : Obj) : (w.alloc o).heap.size = w.heap.size + 1 := by simp
theorem wr_id (x : Int) (h0 : -9223372036854775808 ≤ x) (h1 : x ≤ 9223372036854775807) : wrap64 x = x := by
  unfold wrap64
  omega
end Go.Proofs.YtpniccllpfonfaaGreatDoor.Wd
namespace Go.Proofs.YtpniccllpfonfaaGreatDoor.St
open Go
def Sorted (ks : List ByteArray) : Prop := ks.Pairwise (fun a b => a.toList < b.toList)
/-- Where a key stands among keys, or would. -/
def place (ks : List ByteArray) (key : ByteArray) : Nat := (ks.takeWhile (fun k => decide (k.toList < key.toList))).length
theorem sorted_lt {ks : List ByteArray} (h : Sorted ks) {i j : Nat} (hi : i < j) (hj : j < ks.length) : ks[i].toList < ks[j].toList :=
  List.pairwise_iff_getElem.1 h i j (by omega) hj hi
theorem place_le (ks : List ByteArray) (key : ByteArray) : place ks key ≤ ks.length := by
  unfold place
  exact (List.takeWhile_sublist _).length_le
theorem place_before (ks : List ByteArray) (key : ByteArray) : ∀ k ∈ ks.take (place ks key), k.toList < key.toList := by
  intro k hk
  have e : ks.take (place ks key) = ks.takeWhile (fun k => decide (k.toList < key.toList)) := by
    have h := List.takeWhile_append_dropWhile (p := fun k : ByteArray => decide (k.toList < key.toList)) (l := ks)
    unfold place
    conv => lhs; arg 2; rw [← h]
    exact List.take_left
  rw [e] at hk
  simpa using List.all_eq_true.1 List.all_takeWhile k hk
theorem place_at (ks : List ByteArray) (key : ByteArray) (h : place ks key < ks.length) : ¬ ks[place ks key].toList < key.toList := by
  induction ks with
  | nil => simp at h
  | cons k ks ih =>
    by_cases hk : k.toList < key.toList
    · have e : place (k :: ks) key = place ks key + 1 := by simp [place, hk]
      have h2 : place ks key < ks.length := by rw [e] at h; simpa using h
      have := ih h2
      simpa [e] using this
    · have e : place (k :: ks) key = 0 := by simp [place, hk]
      simpa [e] using hk
theorem tri (a b : List UInt8) (h : ¬ a < b) (hn : a ≠ b) : b < a := by
  have h1 : b ≤ a := h
  rcases List.le_iff_lt_or_eq.1 h1 with h2 | h2
  · exact h2
  · exact absurd h2.symm hn
theorem bytes_ext {a b : ByteArray} (h : a.toList = b.toList) : a = b := by
  apply ByteArray.ext
  apply Array.toList_inj.1
  rw [← ByteArray.toList_eq a, ← ByteArray.toList_eq b, h]
theorem place_after {ks : List ByteArray} (hs : Sorted ks) (key : ByteArray) (hn : ks[place ks key]? ≠ some key) : ∀ k ∈ ks.drop (place ks key), key.toList < k.toList := by
  intro k hk
  obtain ⟨j, hj, rfl⟩ := List.mem_iff_getElem.1 hk
  rw [List.length_drop] at hj
  rw [List.getElem_drop]
  have hp : place ks key < ks.length := by omega
  have h0 : key.toList < (ks[place ks key]).toList := by
    refine tri _ _ (place_at ks key hp) (fun e => hn ?_)
    rw [List.getElem?_eq_getElem hp, bytes_ext e]
  cases j with
  | zero => simpa using h0
  | succ j => exact List.lt_trans h0 (sorted_lt hs (by omega) (by omega))
def insAt {α : Type} (l : List α) (i : Nat) (x : α) : List α := l.take i ++ x :: l.drop i
theorem insAt_len {α : Type} (l : List α) (i : Nat) (x : α) : (insAt l i x).length = l.length + 1 := by
  simp [insAt]; omega
theorem insAt_map {α β : Type} (f : α → β) (l : List α) (i : Nat) (x : α) : (insAt l i x).map f = insAt (l.map f) i (f x) := by
  simp [insAt]
theorem sorted_ins {ks : List ByteArray} (hs : Sorted ks) (key : ByteArray) (hn : ks[place ks key]? ≠ some key) : Sorted (insAt ks (place ks key) key) := by
  have h1 := place_before ks key
  have h2 := place_after hs key hn
  unfold Sorted insAt at *
  rw [List.pairwise_append]
  refine ⟨hs.sublist (List.take_sublist _ _), List.pairwise_cons.2 ⟨fun k hk => h2 k hk, hs.sublist (List.drop_sublist _ _)⟩, fun a ha b hb => ?_⟩
  rcases List.mem_cons.1 hb with rfl | hb
  · exact h1 a ha
  · exact List.lt_trans (h1 a ha) (h2 b hb)
theorem sorted_nil : Sorted [] := List.Pairwise.nil
theorem sorted_erase {ks : List ByteArray} (hs : Sorted ks) (i : Nat) : Sorted (ks.eraseIdx i) := hs.sublist (List.eraseIdx_sublist _ _)
theorem map_set_same {α β : Type} (f : α → β) : ∀ (l : List α) (i : Nat) (x : α), (l.map f)[i]? = some (f x) → (l.set i x).map f = l.map f
  | [], _, _, _ => rfl
  | a :: l, 0, x, h => by simp at h; simp [h]
  | a :: l, i + 1, x, h => by simp at h; simp [map_set_same f l i x (by simpa using h)]
/-- Rows of elements of z cells each. -/
def flat {α : Type} (f : α → List Value) (l : List α) : List Value := l.flatMap f
theorem flat_len {α : Type} (f : α → List Value) (z : Nat) (hz : ∀ x, (f x).length = z) : ∀ l : List α, (flat f l).length = l.length * z
  | [] => by simp [flat]
  | a :: l => by
    have := flat_len f z hz l
    unfold flat at *
    rw [List.flatMap_cons, List.length_append, hz, this, List.length_cons, Nat.succ_mul]; omega
theorem flat_take {α : Type} (f : α → List Value) (z : Nat) (hz : ∀ x, (f x).length = z) : ∀ (l : List α) (i : Nat), i ≤ l.length → flat f (l.take i) = (flat f l).take (i * z)
  | l, 0, _ => by simp [flat]
  | [], i + 1, h => by simp at h
  | a :: l, i + 1, h => by
    have ih := flat_take f z hz l i (by simpa using h)
    unfold flat at *
    rw [List.take_succ_cons, List.flatMap_cons, List.flatMap_cons, ih, Nat.succ_mul, Nat.add_comm (i * z) z, ← hz a, List.take_length_add_append]
theorem flat_drop {α : Type} (f : α → List Value) (z : Nat) (hz : ∀ x, (f x).length = z) : ∀ (l : List α) (i : Nat), i ≤ l.length → flat f (l.drop i) = (flat f l).drop (i * z)
  | l, 0, _ => by simp [flat]
  | [], i + 1, h => by simp at h
  | a :: l, i + 1, h => by
    have ih := flat_drop f z hz l i (by simpa using h)
    unfold flat at *
    rw [List.drop_succ_cons, List.flatMap_cons, ih, Nat.succ_mul, Nat.add_comm (i * z) z, ← hz a, List.drop_length_add_append]
theorem flat_ins {α : Type} (f : α → List Value) (z : Nat) (hz : ∀ x, (f x).length = z) (l : List α) (i : Nat) (hi : i ≤ l.length) (x : α) : flat f (insAt l i x) = (flat f l).take (i * z) ++ f x ++ (flat f l).drop (i * z) := by
  rw [← flat_take f z hz l i hi, ← flat_drop f z hz l i hi]
  simp [flat, insAt]
theorem flat_erase {α : Type} (f : α → List Value) (z : Nat) (hz : ∀ x, (f x).length = z) (l : List α) (i : Nat) (hi : i < l.length) : flat f (l.eraseIdx i) = (flat f l).take (i * z) ++ (flat f l).drop ((i + 1) * z) := by
  rw [← flat_take f z hz l i (by omega), ← flat_drop f z hz l (i + 1) (by omega), List.eraseIdx_eq_take_drop_succ]
  simp [flat]
theorem flat_get {α : Type} (f : α → List Value) (z : Nat) (hz : ∀ x, (f x).length = z) (l : List α) (i j : Nat) (hi : i < l.length) (hj : j < z) : (flat f l)[i * z + j]? = (f l[i])[j]? := by
  have h1 : ((flat f l).drop (i * z))[j]? = (flat f l)[i * z + j]? := by rw [List.getElem?_drop]
  rw [← h1, ← flat_drop f z hz l i (by omega), List.drop_eq_getElem_cons hi]
  unfold flat
  rw [List.flatMap_cons, List.getElem?_append_left (by rw [hz]; exact hj)]
theorem flat_set {α : Type} (f : α → List Value) (z : Nat) (hz : ∀ x, (f x).length = z) (l : List α) (i : Nat) (hi : i < l.length) (x : α) : flat f (l.set i x) = (flat f l).take (i * z) ++ f x ++ (flat f l).drop ((i + 1) * z) := by
  rw [← flat_take f z hz l i (by omega), ← flat_drop f z hz l (i + 1) (by omega), List.set_eq_take_append_cons_drop, if_pos hi]
  simp [flat]
theorem set_at {α : Type} (X : List α) (a : Nat) (b : α) (ha : a < X.length) : X.set a b = X.take a ++ b :: X.drop (a + 1) := by
  rw [List.set_eq_take_append_cons_drop, if_pos ha]
theorem set2 {α : Type} (X : List α) (a : Nat) (b c : α) (ha : a + 2 ≤ X.length) : (X.set a b).set (a + 1) c = X.take a ++ [b, c] ++ X.drop (a + 2) := by
  apply List.ext_getElem
  · simp; omega
  · intro k h1 h2
    simp only [List.getElem_set, List.append_assoc, List.getElem_append, List.length_take, List.getElem_take, List.getElem_drop]
    by_cases c1 : k < a
    · have : k < min a X.length := by omega
      simp [show ¬ a + 1 = k by omega, show ¬ a = k by omega, this]
    · have e : min a X.length = a := by omega
      by_cases c2 : k = a
      · subst c2; simp [e]
      · by_cases c3 : k = a + 1
        · subst c3; simp [e]; try omega
        · simp [show ¬ a + 1 = k by omega, show ¬ a = k by omega, e, c1, show ¬ k - a < 2 by omega]
          congr 1
          omega
theorem set3 {α : Type} (X : List α) (a : Nat) (b c d : α) (ha : a + 3 ≤ X.length) : ((X.set a b).set (a + 1) c).set (a + 2) d = X.take a ++ [b, c, d] ++ X.drop (a + 3) := by
  rw [set2 X a b c (by omega)]
  apply List.ext_getElem
  · simp; omega
  · intro k h1 h2
    simp only [List.getElem_set, List.append_assoc, List.getElem_append, List.length_take, List.getElem_take, List.getElem_drop]
    by_cases c1 : k < a
    · have : k < min a X.length := by omega
      simp [show ¬ a + 2 = k by omega, this]
    · have e : min a X.length = a := by omega
      by_cases c2 : k = a
      · subst c2; simp [e]
      · by_cases c3 : k = a + 1
        · subst c3; simp [e]; try omega
        · by_cases c4 : k = a + 2
          · subst c4; simp [e]; try omega
          · simp [show ¬ a + 2 = k by omega, e, c1, show ¬ k - a < 2 by omega, show ¬ k - a < 3 by omega]
            congr 1
            omega
end Go.Proofs.YtpniccllpfonfaaGreatDoor.St
namespace Go.Proofs.YtpniccllpfonfaaGreatDoor.St
open Go Go.RowKit Go.Proofs.YtpniccllpfonfaaGreatDoorW.PrintWords Go.Proofs.YtpniccllpfonfaaGreatDoor.Wd Go.Proofs.YtpniccllpfonfaaGreatDoor.Q
def strs (l : List ByteArray) : List Value := l.map Value.string
/-- A number's digits (of a fuel: as many as there may be). -/
def dgF : Nat → Nat → List UInt8
  | 0, _ => []
  | k + 1, n => if n < 10 then [UInt8.ofNat (48 + n)] else dgF k (n / 10) ++ [UInt8.ofNat (48 + n % 10)]
def dg (n : Nat) : List UInt8 := dgF 20 n
/-- A text's net. -/
def netL (s : List UInt8) : List UInt8 := dg s.length ++ [58] ++ s ++ [44]
def rowL (l : List ByteArray) : List UInt8 := l.flatMap fun s => netL s.data.toList
theorem dgF_len : ∀ k n, (dgF k n).length ≤ k
  | 0, _ => Nat.le_refl _
  | k + 1, n => by
    unfold dgF
    split
    · simp
    · rw [List.length_append, List.length_singleton]
      have := dgF_len k (n / 10)
      omega
theorem strOfNums_one (m : Int) (n : Nat) (hm : m = (n : Int)) : strOfNums [m] = ⟨#[UInt8.ofNat n]⟩ := by
  subst hm
  rfl
theorem mk_append (a b : List UInt8) : (⟨a.toArray⟩ : ByteArray) ++ (⟨b.toArray⟩ : ByteArray) = ⟨(a ++ b).toArray⟩ := by
  apply ByteArray.ext
  simp
theorem size_mk (a : List UInt8) : (⟨a.toArray⟩ : ByteArray).size = a.length := by
  show (a.toArray).size = _
  simp
theorem digits_f : ∀ k n : Nat, k ≤ 100 → n < 10 ^ (k + 1) → n < 10 ^ 18 → nets_digits.f (k + 1) (n : Int) = some ⟨(dgF (k + 1) n).toArray⟩ := by
  intro k
  induction k with
  | zero =>
    intro n _ h h2
    have hn : n < 10 := by simpa using h
    unfold nets_digits.f
    rw [if_pos (by omega), strOfNums_one _ (48 + n) (by unfold wrap64; omega)]
    unfold dgF
    rw [if_pos hn]
  | succ k ih =>
    intro n hk0 h h2
    unfold nets_digits.f
    by_cases hn : n < 10
    · rw [if_pos (by omega), strOfNums_one _ (48 + n) (by unfold wrap64; omega)]
      unfold dgF
      rw [if_pos hn]
    · have e1 : wrap64 (Int.tdiv (n : Int) 10) = ((n / 10 : Nat) : Int) := by
        rw [Int.tdiv_eq_ediv_of_nonneg (by omega)]
        unfold wrap64
        omega
      have e2 : wrap64 (48 + Int.tmod (n : Int) 10) % 256 = ((48 + n % 10 : Nat) : Int) := by
        rw [Int.tmod_eq_emod_of_nonneg (by omega)]
        unfold wrap64
        omega
      have hk : n / 10 < 10 ^ (k + 1) := by
        rw [Nat.pow_succ] at h
        omega
      rw [if_neg (by omega), e1, ih (n / 10) (by omega) hk (by omega), e2]
      simp only [Option.bind_some]
      have hl := dgF_len (k + 1) (n / 10)
      rw [strOfNums_one _ _ rfl, if_pos (by rw [size_mk]; show _ + 1 ≤ _; omega), show (⟨#[UInt8.ofNat (48 + n % 10)]⟩ : ByteArray) = ⟨[UInt8.ofNat (48 + n % 10)].toArray⟩ from rfl, mk_append]
      conv => rhs; unfold dgF
      rw [if_neg hn]
theorem put_f (s : ByteArray) (h : s.size < 10 ^ 15) : nets_Put.f 20 s = some ⟨(netL s.data.toList).toArray⟩ := by
  have hl : s.data.toList.length = s.size := Array.length_toList
  have hd := dgF_len 20 s.size
  unfold nets_Put.f
  rw [digits_f 19 s.size (by omega) (by omega) (by omega)]
  simp only [Option.bind_some, Nat.reduceAdd]
  rw [size_mk, if_pos (by omega), if_pos (by omega), if_pos (by omega)]
  have e : s = ⟨s.data.toList.toArray⟩ := by cases s; simp
  unfold netL dg
  rw [hl]
  conv => lhs; rw [e]
  rw [show (⟨#[58]⟩ : ByteArray) = ⟨[58].toArray⟩ from rfl, show (⟨#[44]⟩ : ByteArray) = ⟨[44].toArray⟩ from rfl, mk_append, mk_append, mk_append, size_mk, hl]
theorem netL_len (s : ByteArray) : (netL s.data.toList).length ≤ s.size + 22 := by
  have hl : s.data.toList.length = s.size := Array.length_toList
  unfold netL dg
  have hd := dgF_len 20 s.data.toList.length
  simp only [List.length_append, List.length_singleton]
  omega
theorem rowL_snoc (l : List ByteArray) (s : ByteArray) : rowL (l ++ [s]) = rowL l ++ netL s.data.toList := by simp [rowL]
theorem rowL_len (l : List ByteArray) (m : Nat) (h : ∀ s ∈ l, s.size ≤ m) : (rowL l).length ≤ l.length * (m + 22) := by
  induction l with
  | nil => simp [rowL]
  | cons s l ih =>
    show (netL s.data.toList ++ rowL l).length ≤ _
    rw [List.length_append, List.length_cons, Nat.succ_mul]
    have := netL_len s
    have := ih (fun x hx => h x (List.mem_cons_of_mem _ hx))
    have := h s (List.mem_cons_self ..)
    omega
theorem bld_below {T e B b : Nat} {bs : List Value} {w w' : World} (h : Lib.IsBuilderF T e B b bs w) (hk : Below w.heap.size w w') : Lib.IsBuilderF T e B b bs w' := by
  have one : ∀ p, Lib.BuilderAtF T e B b p bs w → Lib.BuilderAtF T e B b p bs w' := fun p h1 => by
    obtain ⟨hB, v, hb, hown, hne⟩ := h1
    refine ⟨hB, v, (hk.block b (Array.getElem?_eq_some_iff.1 hb).1).trans hb, ⟨hown.1, ?_⟩, hne⟩
    rcases hown.2 with h2 | ⟨g, cap, cur, fz, h2, h3, h4, h5⟩
    · exact .inl h2
    · exact .inr ⟨g, cap, cur, fz, h2, h3, (hk.block g (Array.getElem?_eq_some_iff.1 h4).1).trans h4, h5⟩
  exact h.elim (fun x => .inl (one _ x)) (fun x => .inr (one _ x))
theorem row_cells (l : List ByteArray) (s : ByteArray) : Lib.byteCells (rowL (l ++ [s])) = Lib.byteCells (rowL l) ++ Lib.strCells ⟨(netL s.data.toList).toArray⟩ := by
  rw [rowL_snoc, Lib.byteCells_append]
  congr 1
/-- A row of texts, read. -/
def Texts (w : World) (a : Option Addr) (l : List ByteArray) : Prop := 0 < l.length → ∃ g off, a = some ⟨g, off, none⟩ ∧ ∀ i (hi : i < l.length), w.cell? ⟨g, off + i, none⟩ = some (.string l[i])
theorem Texts.below {w w' : World} {a : Option Addr} {l : List ByteArray} (h : Texts w a l) (hb : Below w.heap.size w w') : Texts w' a l := fun h0 => by
  obtain ⟨g, off, e, hc⟩ := h h0
  exact ⟨g, off, e, fun i hi => (hb.cell (p := ⟨g, off + i, none⟩) (World.block_lt_of_cell? w _ (hc i hi))).trans (hc i hi)⟩
set_option maxRecDepth 100000 in
set_option maxHeartbeats 4000000 in
theorem row_any {w : World} {a : Option Addr} {c m : Nat} {l : List ByteArray} (h : Texts w a l) (hl : l.length < 1000000) (hm : ∀ s ∈ l, s.size ≤ m) (hm2 : m < 100000000) :
    Calls Tryz.prog 114 #[.slice a l.length c] w fun e w' => e = .returned (.string ⟨(rowL l).toArray⟩) ∧ Below w.heap.size w w' := by
  go_enter Tryz.func114, Tryz.ntmps114
  go_wp2
  go_loopw [8] (fun i wr => ∃ k : Nat, k ≤ l.length ∧ i = .int .i64 k ∧ Lib.IsBuilderF 193 5 w.heap.size w.heap.size (Lib.byteCells (rowL (l.take k))) wr ∧ Below w.heap.size w wr) (fun i _ => l.length - (intOf i).toNat)
  case atStart => exact ⟨0, Nat.zero_le _, rfl, Lib.IsBuilderF.of (Lib.fresh_isBuilder 193 5 w), (Below.refl _ w).alloc (Nat.le_refl _) _⟩
  case round =>
    obtain ⟨k, hk, rfl, hI, hB⟩ := hrel
    have hsz := hB.size
    by_cases hlt : k < l.length
    · obtain ⟨g, off, rfl, hc⟩ := h (by omega)
      have x0 : wr.cell? ⟨g, off + k, none⟩ = some (.string l[k]) := (hB.cell (p := ⟨g, off + k, none⟩) (World.block_lt_of_cell? w _ (hc k hlt))).trans (hc k hlt)
      have hks := hm _ (List.getElem_mem hlt)
      have hrl := rowL_len (l.take k) m (fun s hs => hm s (List.mem_of_mem_take hs))
      have htl : (l.take k).length ≤ k := List.length_take_le _ _
      have hnl := netL_len l[k]
      have hmul : (l.take k).length * (m + 22) ≤ 1000000 * 100000100 := Nat.mul_le_mul (by omega) (by omega)
      have SN := Lib.hid (rowL_snoc (l.take k) l[k])
      have TK := Lib.hid (List.take_succ_eq_append_getElem hlt)
      clear hc
      go_wp2_with (go_at_call 157; (with_reducible refine (nets_Put.calls 20 l[k] _ _ (put_f l[k] (by omega))).mono ?_); rintro e w1 ⟨rfl, hb1⟩)
      (go_at_call 156; (with_reducible refine (Bld.WriteString w.heap.size w.heap.size _ _ _ (bld_below hI hb1) (by rw [Lib.byteCells_length, size_mk]; omega) (by have := hb1.size; omega)).mono ?_); rintro e w2 ⟨rfl, h2, hb2, -⟩)
      go_wp2
      go_roundw
      case rel => exact ⟨k + 1, by omega, by go_num, by rw [TK.out, row_cells]; exact .inr h2, (hB.trans (hb1.mono hsz)).trans hb2⟩
      case measure => simp [intOf]; omega
    · obtain rfl : k = l.length := by omega
      rw [List.take_length] at hI
      go_wp2_with (go_at_call 138; (with_reducible refine (Tryz.Builder_String_any_k w.heap.size w.heap.size _ _ hI hsz).mono ?_); rintro e w1 ⟨rfl, _, hb1, -⟩)
      go_ret
      exact ⟨rfl, hB.trans hb1⟩
end Go.Proofs.YtpniccllpfonfaaGreatDoor.St
namespace Go.Proofs.YtpniccllpfonfaaGreatDoor.St
open Go Go.RowKit Go.Proofs.YtpniccllpfonfaaGreatDoorW.PrintWords Go.Proofs.YtpniccllpfonfaaGreatDoor.Wd
/-- A write that is not durable yet. -/
structure Wr where
  at_ : Nat
  s : ByteArray
def flatW (l : List Wr) : List Value := l.flatMap fun x => [.int .i64 (x.at_ : Int), .string x.s]
/-- A disk with power at block g: N sectors of Z bytes (row vl), n writes in its cache (row vc). -/
structure Dk (B : Nat) (w : World) (g N Z : Nat) (vl vc : Value) (full : Bool) (n : Nat) : Prop where
  blk : ∃ ops : Int, w.heap[g]? = some (.cells #[.int .i64 (Z : Int), vl, vc, .int .i64 0, .bool false, .bool full, .int .i64 ops] 173 (0, 0))
  g0 : B ≤ g
  row : ∃ ss : List ByteArray, ss.length = N ∧ (∀ s ∈ ss, s.size = Z) ∧ w.ownsRow B 9 1 vl N (strs ss)
  cache : ∃ ws : List Wr, ws.length = n ∧ (∀ p ∈ ws, p.at_ < N ∧ p.s.size = Z) ∧ w.ownsRow B 229 2 vc n (flatW ws)
def DkS (g : Nat) (vl vc : Value) (k : Nat) : Prop := k = g ∨ vl.ownBlock = some k ∨ vc.ownBlock = some k
theorem strs_len (l : List ByteArray) : (strs l).length = l.length := List.length_map _
theorem flatW_len (l : List Wr) : (flatW l).length = l.length * 2 := by
  induction l with
  | nil => rfl
  | cons e l ih =>
    show (_ ++ flatW l).length = _
    rw [List.length_append, ih]
    show 2 + l.length * 2 = (l.length + 1) * 2
    omega
theorem flatW_get : ∀ (l : List Wr) (i j : Nat) (hi : i < l.length), j < 2 → (flatW l)[i * 2 + j]? = [Value.int .i64 (l[i].at_ : Int), .string l[i].s][j]?
  | e :: l, 0, j, _, hj => by
    show (_ ++ flatW l)[0 * 2 + j]? = _
    rw [List.getElem?_append_left (by show 0 * 2 + j < 2; omega)]
    simp
  | e :: l, i + 1, j, hi, hj => by
    show (_ ++ flatW l)[(i + 1) * 2 + j]? = _
    rw [List.getElem?_append_right (by show 2 ≤ (i + 1) * 2 + j; omega), show (i + 1) * 2 + j - [Value.int .i64 (e.at_ : Int), .string e.s].length = i * 2 + j by show _ - 2 = _; omega]
    exact flatW_get l i j (by simpa using hi) hj
section
variable {B : Nat} {w w' : World} {g N Z n : Nat} {vl vc : Value} {full : Bool}
theorem Dk.lt (h : Dk B w g N Z vl vc full n) : g < w.heap.size := by
  obtain ⟨ops, hb⟩ := h.blk
  exact (Array.getElem?_eq_some_iff.1 hb).1
theorem Dk.turn {S : Nat → Prop} (h : Dk B w g N Z vl vc full n) (hk : Turn w w' S) (h1 : ¬ S g) (h2 : ∀ k, vl.ownBlock = some k → ¬ S k) (h3 : ∀ k, vc.ownBlock = some k → ¬ S k) : Dk B w' g N Z vl vc full n := by
  obtain ⟨ops, hb⟩ := h.blk
  obtain ⟨ss, a1, a2, a3⟩ := h.row
  obtain ⟨ws, b1, b2, b3⟩ := h.cache
  exact ⟨⟨ops, (hk.block h.lt h1).trans hb⟩, h.g0, ⟨ss, a1, a2, rowE_turn a3 hk h2⟩, ⟨ws, b1, b2, rowE_turn b3 hk h3⟩⟩
theorem Dk.ofBelow (h : Dk B w g N Z vl vc full n) (hb : Below w.heap.size w w') : Dk B w' g N Z vl vc full n :=
  h.turn (Turn.of_below hb (fun _ => False)) id (fun _ _ => id) (fun _ _ => id)
theorem Dk.geB (h : Dk B w g N Z vl vc full n) : ∀ k, DkS g vl vc k → B ≤ k := by
  obtain ⟨ss, a1, a2, a3⟩ := h.row
  obtain ⟨ws, b1, b2, b3⟩ := h.cache
  rintro k (e | e | e)
  · rw [e]; exact h.g0
  · exact (a3.lt k e).1
  · exact (b3.lt k e).1
theorem Dk.ltS (h : Dk B w g N Z vl vc full n) : ∀ k, DkS g vl vc k → k < w.heap.size := by
  obtain ⟨ss, a1, a2, a3⟩ := h.row
  obtain ⟨ws, b1, b2, b3⟩ := h.cache
  rintro k (e | e | e)
  · rw [e]; exact h.lt
  · exact (a3.lt k e).2
  · exact (b3.lt k e).2
set_option maxRecDepth 100000 in
set_option maxHeartbeats 2000000 in
theorem there_any (h : Dk B w g N Z vl vc full n) (i : Int) (h0 : 0 ≤ i) (h1 : i < N) : Calls Tryz.prog 176 #[.pointer (some ⟨g, 0, none⟩), .int .i64 i] w fun e w' => e = .returned (.bool true) ∧ w' = w := by
  obtain ⟨ops, hb⟩ := h.blk
  obtain ⟨ss, a1, a2, a3⟩ := h.row
  obtain ⟨a, c, rfl, _⟩ := sliceE_of a3
  have c1 : w.cell? ⟨g, 1, none⟩ = some (.slice a N c) := blk_cell hb 1
  go_enter Tryz.func176, Tryz.ntmps176
  go_wp2
  go_ret
  exact ⟨rfl, rfl⟩
set_option maxRecDepth 100000 in
set_option maxHeartbeats 2000000 in
theorem sectors_any (h : Dk B w g N Z vl vc full n) : Calls Tryz.prog 209 #[.pointer (some ⟨g, 0, none⟩)] w fun e w' => e = .returned (.int .i64 (N : Int)) ∧ w' = w := by
  obtain ⟨ops, hb⟩ := h.blk
  obtain ⟨ss, a1, a2, a3⟩ := h.row
  obtain ⟨a, c, rfl, _⟩ := sliceE_of a3
  have c1 : w.cell? ⟨g, 1, none⟩ = some (.slice a N c) := blk_cell hb 1
  go_enter Tryz.func209, Tryz.ntmps209
  go_wp2
  go_ret
  exact ⟨rfl, rfl⟩
set_option maxRecDepth 100000 in
set_option maxHeartbeats 2000000 in
theorem size_any (h : Dk B w g N Z vl vc full n) : Calls Tryz.prog 132 #[.pointer (some ⟨g, 0, none⟩)] w fun e w' => e = .returned (.int .i64 (Z : Int)) ∧ w' = w := by
  obtain ⟨ops, hb⟩ := h.blk
  have c1 : w.cell? ⟨g, 0, none⟩ = some (.int .i64 (Z : Int)) := blk_cell hb 0
  go_enter Tryz.func132, Tryz.ntmps132
  go_wp2
  go_ret
  exact ⟨rfl, rfl⟩
set_option maxRecDepth 100000 in
set_option maxHeartbeats 2000000 in
theorem operates_any (h : Dk B w g N Z vl vc full n) : Calls Tryz.prog 177 #[.pointer (some ⟨g, 0, none⟩)] w fun e w' => e = .returned (.bool false) ∧ Dk B w' g N Z vl vc full n ∧ Turn w w' (· = g) := by
  obtain ⟨ops, hb⟩ := h.blk
  obtain ⟨ss, a1, a2, a3⟩ := h.row
  obtain ⟨ws, b1, b2, b3⟩ := h.cache
  have c3 : w.cell? ⟨g, 3, none⟩ = some (.int .i64 0) := blk_cell hb 3
  have c6 : w.cell? ⟨g, 6, none⟩ = some (.int .i64 ops) := blk_cell hb 6
  have fz : w.frozen? ⟨g, 6, none⟩ = false := blk_frozen hb 6
  go_enter Tryz.func177, Tryz.ntmps177
  go_wp2
  go_ret
  have tu : ∀ u, Turn w (w.setCell ⟨g, 6, none⟩ u) (fun k => k = g) := fun u => (Turn.refl w (fun k => k = g)).setCell (p := ⟨g, 6, none⟩) (.inl rfl) u
  have n1 : ∀ k, vl.ownBlock = some k → ¬ k = g := fun k hk e => rowE_ne a3 hb (by decide) (e ▸ hk)
  have n2 : ∀ k, vc.ownBlock = some k → ¬ k = g := fun k hk e => rowE_ne b3 hb (by decide) (e ▸ hk)
  refine ⟨rfl, ⟨⟨wrap64 (ops + 1), ?_⟩, h.g0, ⟨ss, a1, a2, rowE_turn a3 (tu _) n1⟩, ⟨ws, b1, b2, rowE_turn b3 (tu _) n2⟩⟩, tu _⟩
  have := blk_set hb 6 (.int .i64 (wrap64 (ops + 1)))
  simpa using this
theorem grow_of {w : World} {v v2 : Value} {m : Nat} (h : v2.ownBlock = v.ownBlock ∨ v2.ownBlock = some m) (hm : w.heap.size ≤ m) : Grow w v v2 := fun k hk => by
  rcases h with h | h
  · exact .inl (h ▸ hk)
  · rw [h] at hk
    have : m = k := Option.some.inj hk
    exact .inr (by omega)
theorem infoWr : (Tryz.prog.info? 229).map (fun i => (i.zero, i.size, i.bytes)) = some (some (.agg #[.int .i64 0, .string ⟨#[]⟩]), 2, 24) := by kernel_rfl
set_option maxRecDepth 100000 in
set_option maxHeartbeats 4000000 in
theorem read_any (h : Dk B w g N Z vl vc full n) (hn : n < 1000000) (i : Int) (h0 : 0 ≤ i) (h1 : i < N) (hN : N < 1000000) :
    Calls Tryz.prog 206 #[.pointer (some ⟨g, 0, none⟩), .int .i64 i] w fun e w' => ∃ s : ByteArray, e = .returned (.tuple #[.string s, .int .i64 0]) ∧ s.size = Z ∧ w' = w := by
  obtain ⟨ops, hb⟩ := h.blk
  obtain ⟨ss, a1, a2, a3⟩ := h.row
  obtain ⟨ws, b1, b2, b3⟩ := h.cache
  obtain ⟨a, c, rfl, _⟩ := sliceE_of a3
  obtain ⟨ac, cc, rfl, _⟩ := sliceE_of b3
  have c1 : w.cell? ⟨g, 1, none⟩ = some (.slice a N c) := blk_cell hb 1
  have c2 : w.cell? ⟨g, 2, none⟩ = some (.slice ac n cc) := blk_cell hb 2
  have c4 : w.cell? ⟨g, 4, none⟩ = some (.bool false) := blk_cell hb 4
  obtain ⟨gl, cur, rfl, _, _, _, hl⟩ := rowE_at a3 (by omega)
  obtain ⟨j, rfl⟩ := Int.eq_ofNat_of_zero_le h0
  have hj : j < N := by omega
  have cl : w.cell? ⟨gl, j, none⟩ = some (.string (ss[j]'(by omega))) := hl j _ (by unfold strs; rw [List.getElem?_map, List.getElem?_eq_getElem (by omega)]; rfl)
  have hsz : (ss[j]'(by omega)).size = Z := a2 _ (List.getElem_mem _)
  have HSZ := Lib.hid hsz
  clear hsz hl
  go_enter Tryz.func206, Tryz.ntmps206
  go_wp2_with (go_at_call 176; (with_reducible refine (there_any h (j : Int) h0 h1).mono ?_); rintro e w' ⟨rfl, rfl⟩)
  go_loop [6] (fun i => ∃ k : Nat, k ≤ n ∧ i = .int .i64 ((k : Int) - 1)) (fun i => (intOf i + 1).toNat)
  case atStart => exact ⟨n, Nat.le_refl _, rfl⟩
  case round =>
    obtain ⟨k, hk, rfl⟩ := hrel
    cases k with
    | zero =>
      go_wp2
      go_ret2
      exact ⟨_, rfl, HSZ.out, rfl⟩
    | succ k =>
      obtain ⟨gc, cur2, rfl, _, _, _, hc⟩ := rowE_at b3 (by omega)
      have hkw : k < ws.length := by omega
      have x0 : w'.cell? ⟨gc, k * 2, none⟩ = some (.int .i64 (ws[k].at_ : Int)) := hc (k * 2) _ (by rw [← Nat.add_zero (k * 2), flatW_get ws k 0 hkw (by decide)]; rfl)
      have x1 : w'.cell? ⟨gc, k * 2 + 1, none⟩ = some (.string ws[k].s) := hc (k * 2 + 1) _ (by rw [flatW_get ws k 1 hkw (by decide)]; rfl)
      have hws := b2 _ (List.getElem_mem hkw)
      have HWS := Lib.hid hws
      clear hws hc
      go_wp2
      · go_ret2
        exact ⟨_, rfl, HWS.out.2, rfl⟩
      · exact ⟨⟨k, by omega, rfl⟩, by simp [intOf]⟩
theorem flatW_snoc (l : List Wr) (x : Wr) : flatW (l ++ [x]) = flatW l ++ [.int .i64 (x.at_ : Int), .string x.s] := by simp [flatW]
set_option maxRecDepth 100000 in
set_option maxHeartbeats 4000000 in
theorem write_any (h : Dk B w g N Z vl vc false n) (hn : n < 1000000) (hB : B ≤ w.heap.size) (j : Nat) (h1 : j < N) (s : ByteArray) (hs : s.size = Z) :
    Calls Tryz.prog 133 #[.pointer (some ⟨g, 0, none⟩), .int .i64 (j : Int), .string s] w fun e w' => ∃ vc', e = .returned (.int .i64 0) ∧ Dk B w' g N Z vl vc' false (n + 1) ∧ Turn w w' (DkS g vl vc) ∧ Grow w vc vc' := by
  obtain ⟨ops, hb⟩ := h.blk
  have c0 : w.cell? ⟨g, 0, none⟩ = some (.int .i64 (Z : Int)) := blk_cell hb 0
  have c4 : w.cell? ⟨g, 4, none⟩ = some (.bool false) := blk_cell hb 4
  obtain ⟨i0, hi0, hz0, hz1, hz2⟩ := info_parts infoWr
  have hsz : (s.size : Int) = (Z : Int) := by omega
  have h0 : (0 : Int) ≤ (j : Int) := by omega
  have h1' : (j : Int) < (N : Int) := by omega
  go_enter Tryz.func133, Tryz.ntmps133
  go_wp2_with (go_at_call 176; (with_reducible refine (there_any h (j : Int) h0 h1').mono ?_); rintro e w' ⟨rfl, rfl⟩)
  (go_at_call 177; (with_reducible refine (operates_any h).mono ?_); rintro e w1 ⟨rfl, hD1, hT1⟩)
  obtain ⟨ops1, hb1⟩ := hD1.blk
  obtain ⟨ss, a1, a2', a3⟩ := hD1.row
  obtain ⟨ws, b1, b2, b3⟩ := hD1.cache
  have hg1 := hD1.lt
  have hgA : ∀ o, g < (w1.alloc o).heap.size := fun o => by rw [size_alloc]; omega
  obtain ⟨ac, cc, rfl, _⟩ := sliceE_of b3
  have d2 : w1.cell? ⟨g, 2, none⟩ = some (.slice ac n cc) := blk_cell hb1 2
  have d5 : w1.cell? ⟨g, 5, none⟩ = some (.bool false) := blk_cell hb1 5
  have hs1 := hT1.size
  clear c0 c4
  go_wp2_with (at_builtin; refine wpList_append_own_at _ rfl _ _ _ rfl B 229 i0 _ 2 24 Tryz.underlying171 hi0 hz0 hz1 hz2 rfl (by omega) (.slice ac n cc) n (flatW ws) rfl (b3.alloc _) ⟨w1.heap.size, 0, none⟩ 1 1 [.int .i64 (j : Int), .string s] rfl rfl (World.news_of_block (cs := #[.int .i64 (j : Int), .string s]) (t := 229) (fr := (0, 0)) (heap_alloc_new w1 _)) (by simp [Value.oneCell']) (by unfold maxLen; omega) (by omega) (by simp; omega) ?_; intro v2 w2 hown2 hgrow2 _ hat2; obtain ⟨a2, c2, rfl, _⟩ := sliceE_of hown2; have hb2 := (hgrow2.block g (hgA _) (fun e => rowE_ne b3 hb1 (by decide) e.symm)).trans ((Below.heap_alloc w1 _ g hg1).trans hb1); have d2' := (blk_cell hb2 2).trans rfl; have f2' := blk_frozen hb2 2)
  go_ret
  have n1 : ∀ k, vl.ownBlock = some k → k < w1.heap.size := fun k hk => (a3.lt k hk).2
  have n2 : ∀ k, vl.ownBlock = some k → k ≠ g := fun k hk e => rowE_ne a3 hb1 (by decide) (e ▸ hk)
  have n3 := rowE_apart a3 b3 (by decide)
  have tw : Turn w1 (w2.setCell ⟨g, 2, none⟩ (.slice a2 (n + 1) c2)) (DkS g vl (.slice ac n cc)) :=
    (((Turn.refl w1 _).alloc _).grown hgrow2 (fun k hk => .inl (.inr (.inr hk)))).setCell (p := ⟨g, 2, none⟩) (.inl (.inl rfl)) _
  have rowl : (w2.setCell ⟨g, 2, none⟩ (.slice a2 (n + 1) c2)).ownsRow B 9 1 vl N (strs ss) := rowE_of a3 fun k hk => by
    rw [Below.heap_setCell w2 ⟨g, 2, none⟩ _ k (n2 k hk), hgrow2.block k (by rw [size_alloc]; have := n1 k hk; omega) (fun e => n3 k hk e.symm)]
    exact Below.heap_alloc w1 _ k (n1 k hk)
  have rowc : (w2.setCell ⟨g, 2, none⟩ (.slice a2 (n + 1) c2)).ownsRow B 229 2 (.slice a2 (n + 1) c2) (n + 1) (flatW (ws ++ [⟨j, s⟩])) := by
    rw [flatW_snoc]
    exact rowE_of hown2 fun k hk => Below.heap_setCell w2 ⟨g, 2, none⟩ _ k (fun e => rowE_ne hown2 hb2 (by decide) (by rw [← show k = g from e]; exact hk))
  refine ⟨.slice a2 (n + 1) c2, rfl, ⟨⟨ops1, ?_⟩, h.g0, ⟨ss, a1, a2', rowl⟩, ⟨ws ++ [⟨j, s⟩], by simp [b1], ?_, rowc⟩⟩, (hT1.mono (fun k hk => .inl hk)).then_ tw (fun k hk => .inl hk), ?_⟩
  · have := blk_set hb2 2 (.slice a2 (n + 1) c2)
    simpa using this
  · intro p hp
    rcases List.mem_append.1 hp with hp | hp
    · exact b2 p hp
    · obtain rfl : p = ⟨j, s⟩ := by simpa using hp
      exact ⟨h1, hs⟩
  · exact grow_of hat2 (by rw [size_alloc]; have := hT1.size; omega)
theorem Dk.set {gl cl i : Nat} (h : Dk B w g N Z (.slice (some ⟨gl, 0, none⟩) N cl) vc full n) (hi : i < N) (s : ByteArray) (hs : s.size = Z) : Dk B (w.setCell ⟨gl, i, none⟩ (.string s)) g N Z (.slice (some ⟨gl, 0, none⟩) N cl) vc full n := by
  obtain ⟨ops, hb⟩ := h.blk
  obtain ⟨ss, a1, a2, a3⟩ := h.row
  obtain ⟨ws, b1, b2, b3⟩ := h.cache
  have hg : g ≠ gl := fun e => rowE_ne a3 hb (by decide) (by rw [e]; rfl)
  refine ⟨⟨ops, (Below.heap_setCell w ⟨gl, i, none⟩ _ g hg).trans hb⟩, h.g0, ⟨ss.set i s, by rw [List.length_set]; exact a1, fun x hx => ?_, ?_⟩, ⟨ws, b1, b2, rowE_of b3 fun k hk => Below.heap_setCell w ⟨gl, i, none⟩ _ k (fun e => rowE_apart a3 b3 (by decide) gl rfl (by rw [← show k = gl from e]; exact hk))⟩⟩
  · rcases List.mem_or_eq_of_mem_set hx with h1 | h1
    · exact a2 x h1
    · rw [h1]; exact hs
  · have := rowE_set (i := i) a3 (.string s) (by omega)
    unfold strs at this ⊢
    rwa [List.map_set]
/-- While the cache is written through. -/
def RF (B : Nat) (w : World) (g N Z : Nat) (vl vc : Value) (full : Bool) (n : Nat) (i : Value) (wr : World) : Prop :=
  ∃ k : Nat, k ≤ n ∧ i = .int .i64 k ∧ Dk B wr g N Z vl vc full n ∧ Turn w wr (DkS g vl vc)
set_option maxRecDepth 100000 in
set_option maxHeartbeats 4000000 in
theorem flush_any (h : Dk B w g N Z vl vc full n) (hn : n < 1000000) (hN : N < 1000000) :
    Calls Tryz.prog 134 #[.pointer (some ⟨g, 0, none⟩)] w fun e w' => e = .returned (.int .i64 0) ∧ Dk B w' g N Z vl (.slice none 0 0) full 0 ∧ Turn w w' (DkS g vl vc) := by
  obtain ⟨ops, hb⟩ := h.blk
  have c4 : w.cell? ⟨g, 4, none⟩ = some (.bool false) := blk_cell hb 4
  go_enter Tryz.func134, Tryz.ntmps134
  go_wp2_with (go_at_call 177; (with_reducible refine (operates_any h).mono ?_); rintro e w1 ⟨rfl, hD1, hT1⟩; obtain ⟨ops1, hb1⟩ := hD1.blk; obtain ⟨ws0, e1, e2, e3⟩ := hD1.cache; obtain ⟨ac, cc, rfl, _⟩ := sliceE_of e3; have d2 : w1.cell? ⟨g, 2, none⟩ = some (.slice ac n cc) := blk_cell hb1 2)
  go_loopw [18] (fun i wr => RF B w g N Z vl (.slice ac n cc) full n i wr) (fun i _ => n - (intOf i).toNat)
  case atStart => exact ⟨0, Nat.zero_le _, rfl, hD1, hT1.mono (fun k hk => .inl hk)⟩
  case round =>
    clear hD1 hT1 hb1 e1 e2 e3 d2 hb c4
    obtain ⟨k, hk, rfl, hD, hT⟩ := hrel
    obtain ⟨ops2, hb2⟩ := hD.blk
    obtain ⟨ss, a1, a2, a3⟩ := hD.row
    obtain ⟨ws, b1, b2, b3⟩ := hD.cache
    obtain ⟨al, cl, rfl, _⟩ := sliceE_of a3
    by_cases hlt : k < n
    · obtain ⟨gc, cur2, rfl, _, _, _, hc⟩ := rowE_at b3 (by omega)
      have hkw : k < ws.length := by omega
      have x0 : wr.cell? ⟨gc, k * 2, none⟩ = some (.int .i64 (ws[k].at_ : Int)) := hc (k * 2) _ (by rw [← Nat.add_zero (k * 2), flatW_get ws k 0 hkw (by decide)]; rfl)
      have x1 : wr.cell? ⟨gc, k * 2 + 1, none⟩ = some (.string ws[k].s) := hc (k * 2 + 1) _ (by rw [flatW_get ws k 1 hkw (by decide)]; rfl)
      have hws := b2 _ (List.getElem_mem hkw)
      have c1 : ∀ o, (wr.alloc o).cell? ⟨g, 1, none⟩ = some (.slice al N cl) := fun o => (World.cell?_of_block (Below.heap_alloc wr o g hD.lt)).trans (blk_cell hb2 1)
      obtain ⟨gl, cur, rfl, hgB, hlb, hlc, hl⟩ := rowE_at a3 (by omega)
      have hat : ws[k].at_ < cur.size := by omega
      have glt : gl < wr.heap.size := (Array.getElem?_eq_some_iff.1 hlb).1
      have ogl : ∀ o, (wr.alloc o).heap[gl]? = some (.cells cur 9 (0, 0)) := fun o => (Below.heap_alloc wr o gl glt).trans hlb
      have cgl : ∀ o, (wr.alloc o).cell? ⟨gl, ws[k].at_, none⟩ = some cur[ws[k].at_] := fun o => (blk_cell (ogl o) _).trans (Array.getElem?_eq_getElem hat)
      have fgl : ∀ o, (wr.alloc o).frozen? ⟨gl, ws[k].at_, none⟩ = false := fun o => blk_frozen (ogl o) _
      have nb : ∀ o, (wr.alloc o).heap[wr.heap.size]? = some o := fun o => heap_alloc_new wr o
      have y0 : ∀ a b, (wr.alloc (.cells #[a, b] 229)).cell? ⟨wr.heap.size, 0, none⟩ = some a := fun a b => (blk_cell (nb _) 0).trans rfl
      have y1 : ∀ a b, (wr.alloc (.cells #[a, b] 229)).cell? ⟨wr.heap.size, 1, none⟩ = some b := fun a b => (blk_cell (nb _) 1).trans rfl
      have nb' : ∀ p u o, ((wr.setCell p u).alloc o).heap[wr.heap.size]? = some o := fun p u o => by
        have := heap_alloc_new (wr.setCell p u) o
        rwa [show (wr.setCell p u).heap.size = wr.heap.size by simp] at this
      have z0 : ∀ p u a b, ((wr.setCell p u).alloc (.cells #[a, b] 229)).cell? ⟨wr.heap.size, 0, none⟩ = some a := fun p u a b => (blk_cell (nb' p u _) 0).trans rfl
      have z1 : ∀ p u a b, ((wr.setCell p u).alloc (.cells #[a, b] 229)).cell? ⟨wr.heap.size, 1, none⟩ = some b := fun p u a b => (blk_cell (nb' p u _) 1).trans rfl
      have ik0 : (0 : Int) ≤ (ws[k].at_ : Int) := by omega
      have ik1 : (ws[k].at_ : Int) < (N : Int) := by omega
      have gne : gl ≠ g := fun e => by rw [e, hb2] at hlb; injection hlb with e1; injection e1 with _ e2; exact absurd e2 (by decide)
      have cst : wr.cell? ⟨g, 1, none⟩ = some (.slice (some ⟨gl, 0, none⟩) N cl) := blk_cell hb2 1
      clear hl hc
      go_wp2
      go_region_held3 (fun w' => w'.cell? ⟨g, 1, none⟩ = some (.slice (some ⟨gl, 0, none⟩) N cl) ∧ w'.cell? ⟨wr.heap.size, 0, none⟩ = some (.int .i64 (ws[k].at_ : Int)) ∧ w'.cell? ⟨wr.heap.size, 1, none⟩ = some (.string ws[k].s)) (go_keep) (fail)
      have hDs := hD.set hws.1 ws[k].s hws.2
      have wsz : (wr.setCell ⟨gl, ws[k].at_, none⟩ (.string ws[k].s)).heap.size = wr.heap.size := by simp
      have bx : ∀ o, Below (wr.setCell ⟨gl, ws[k].at_, none⟩ (.string ws[k].s)).heap.size (wr.setCell ⟨gl, ws[k].at_, none⟩ (.string ws[k].s)) ((wr.setCell ⟨gl, ws[k].at_, none⟩ (.string ws[k].s)).alloc o).drew := fun o => ((Below.refl _ _).alloc (Nat.le_refl _) o).drew
      clear nb nb' y0 y1 z0 z1 cgl fgl ogl c1 cst x0 x1
      go_wp2
      go_roundw
      case rel => exact ⟨k + 1, by omega, by go_num, hDs.ofBelow (bx _), ((hT.setCell (p := ⟨gl, ws[k].at_, none⟩) (.inl (.inr (.inl rfl))) _).alloc _).drew⟩
      case measure => simp [intOf]; omega
    · have c2 : wr.cell? ⟨g, 2, none⟩ = some (.slice ac n cc) := blk_cell hb2 2
      have f2 : wr.frozen? ⟨g, 2, none⟩ = false := blk_frozen hb2 2
      go_wp2
      go_ret
      have ts : Turn wr (wr.setCell ⟨g, 2, none⟩ (.slice none 0 0)) (fun k => k = g) := (Turn.refl wr (fun k => k = g)).setCell (p := ⟨g, 2, none⟩) (.inl rfl) _
      refine ⟨rfl, ⟨⟨ops2, ?_⟩, hD.g0, ⟨ss, a1, a2, rowE_turn a3 ts (fun k hk e => rowE_ne a3 hb2 (by decide) (e ▸ hk))⟩, ⟨[], rfl, fun p hp => by simp at hp, ⟨rfl, .inl ⟨rfl, rfl⟩⟩⟩⟩, hT.setCell (p := ⟨g, 2, none⟩) (.inl (.inl rfl)) _⟩
      have := blk_set hb2 2 (.slice none 0 0)
      simpa using this
end
end Go.Proofs.YtpniccllpfonfaaGreatDoor.St
namespace Go.Proofs.YtpniccllpfonfaaGreatDoor.St
open Go Go.RowKit Go.Proofs.YtpniccllpfonfaaGreatDoorW.PrintWords Go.Proofs.YtpniccllpfonfaaGreatDoor.Wd
theorem infoS : (Tryz.prog.info? 9).map (fun i => (i.zero, i.size, i.bytes)) = some (some (.string ⟨#[]⟩), 1, 16) := by kernel_rfl
theorem zeros_size (c : Nat) : (⟨(Lib.repeatL [0] c).toArray⟩ : ByteArray).size = c := by
  show ((Lib.repeatL [0] c).toArray).size = c
  rw [List.size_toArray, Lib.repeatL_length]
  simp
def RN (w : World) (g gl N Z : Nat) (i : Value) (wr : World) : Prop :=
  ∃ (k : Nat) (ss : List ByteArray), k ≤ N ∧ i = .int .i64 k ∧ ss.length = N ∧ (∀ j (hj : j < ss.length), j < k → ss[j].size = Z) ∧ wr.heap[g]? = some (.cells #[.int .i64 (Z : Int), .slice (some ⟨gl, 0, none⟩) N N, .slice none 0 0, .int .i64 0, .bool false, .bool false, .int .i64 0] 173 (0, 0)) ∧
    wr.ownsRow w.heap.size 9 1 (.slice (some ⟨gl, 0, none⟩) N N) N (strs ss) ∧ Below w.heap.size w wr
set_option maxRecDepth 100000 in
set_option maxHeartbeats 4000000 in
theorem dnew_any {w : World} (N Z : Nat) (hN : 4 ≤ N) (hN2 : N ≤ 4096) (hZ : 16 ≤ Z) (hZ2 : Z ≤ 256) :
    Calls Tryz.prog 78 #[.int .i64 (N : Int), .int .i64 (Z : Int)] w fun e w' => ∃ g vl, e = .returned (.tuple #[.pointer (some ⟨g, 0, none⟩), .int .i64 0]) ∧ Dk w.heap.size w' g N Z vl (.slice none 0 0) false 0 ∧ Below w.heap.size w w' := by
  obtain ⟨i0, hi0, hz0, hz1, hz2⟩ := info_parts infoS
  have k1 : ¬ (N : Int) < 4 := by omega
  have k2 : ¬ (4096 : Int) < (N : Int) := by omega
  have k3 : ¬ (Z : Int) < 16 := by omega
  have k4 : ¬ (256 : Int) < (Z : Int) := by omega
  have kp : 0 < N := by omega
  go_enter Tryz.func78, Tryz.ntmps78
  go_wp2_with (at_make; refine wpList_make_full w rfl _ _ 143 rfl w.heap.size 9 i0 _ 1 Tryz.underlying143 hi0 hz0 hz1 .i64 .i64 (N : Int) (N : Int) N rfl rfl rfl rfl (by rw [hz2]; omega) (by unfold maxLen; omega) (Nat.le_refl _) ?_; intro w1 hown1 hgrow1)
  obtain ⟨gg, hgg⟩ : ∃ gg, gg = w1.heap.size := ⟨_, rfl⟩
  have hg1 := hgrow1.size
  have b1 : Below w.heap.size w w1 := (Below.refl _ _).grown hgrow1 (Nat.le_refl _) (fun k hk => by cases hk)
  have st : RN w gg w.heap.size N Z (.int .i64 ((0 : Nat) : Int)) (w1.alloc (.cells #[.int .i64 (Z : Int), .slice (some ⟨w.heap.size, 0, none⟩) N N, .slice none 0 0, .int .i64 0, .bool false, .bool false, .int .i64 0] 173)) := by
    refine ⟨0, List.replicate N ⟨#[]⟩, Nat.zero_le _, rfl, List.length_replicate, fun j hj h => absurd h (Nat.not_lt_zero _), by rw [hgg]; exact heap_alloc_new w1 _, ?_, b1.alloc hg1 _⟩
    have e1 : strs (List.replicate N (⟨#[]⟩ : ByteArray)) = (madeCells (Value.string ⟨#[]⟩).cells (N * 1)).toList := by
      rw [Nat.mul_one, show (Value.string ⟨#[]⟩).cells = #[.string ⟨#[]⟩] from rfl, toList_madeCells_one]
      simp [strs]
    rw [e1]
    exact hown1.alloc _
  have hgl : w.heap.size < w1.heap.size := (hown1.lt _ rfl).2
  rw [← hgg] at hgl ⊢
  have hgl' : w.heap.size < gg := by omega
  clear hgg hown1 hgrow1 b1 hg1
  go_loopw [32] (fun i wr => RN w gg w.heap.size N Z i wr) (fun i _ => N - (intOf i).toNat)
  case atStart => exact st
  case round =>
    clear st
    obtain ⟨k, ss, hk, rfl, hl, hz, hb, hown, hB⟩ := hrel
    have c1 : wr.cell? ⟨gg, 1, none⟩ = some (.slice (some ⟨w.heap.size, 0, none⟩) N N) := blk_cell hb 1
    by_cases hlt : k < N
    · obtain ⟨gl, cur, e1, _, hlb, hlc, _⟩ := rowE_at hown (by omega)
      have e2 : w.heap.size = gl := by injection e1 with e1; injection e1
      subst e2
      have ik0 : (0 : Int) ≤ (k : Int) := by omega
      have ik1 : (k : Int) < (N : Int) := by omega
      have glt : w.heap.size < wr.heap.size := (Array.getElem?_eq_some_iff.1 hlb).1
      have glg : gg < wr.heap.size := (Array.getElem?_eq_some_iff.1 hb).1
      have hne : w.heap.size ≠ gg := by omega
      have hkc : k < cur.size := by omega
      go_wp2
      go_region_held3 (fun w' => w'.cell? ⟨gg, 1, none⟩ = some (.slice (some ⟨w.heap.size, 0, none⟩) N N)) (go_keep) (first
        | (go_at_call 120; refine (Tryz.strings_Repeat _ Z _ (by omega) (by show 1 * Z ≤ _; omega)).mono ?_; rintro e wq ⟨rfl, hq⟩; have hq2 := ((Below.refl wr.heap.size wr).drew).trans hq; have c1q : wq.cell? ⟨gg, 1, none⟩ = some (.slice (some ⟨w.heap.size, 0, none⟩) N N) := (World.cell?_of_block (hq2.block gg glg)).trans c1; have hlq := (hq2.block _ glt).trans hlb; have clq : wq.cell? ⟨w.heap.size, k, none⟩ = some cur[k] := (blk_cell hlq k).trans (Array.getElem?_eq_getElem hkc); have flq : wq.frozen? ⟨w.heap.size, k, none⟩ = false := blk_frozen hlq k))
      have hst := rowE_set (i := k) (rowE_below hown hq2) (.string ⟨(Lib.repeatL [0] Z).toArray⟩) (by omega)
      have hBq := hB.trans (hq2.mono hB.size)
      have hbg : (wq.setCell ⟨w.heap.size, k, none⟩ (.string ⟨(Lib.repeatL [0] Z).toArray⟩)).heap[gg]? = some (.cells #[.int .i64 (Z : Int), .slice (some ⟨w.heap.size, 0, none⟩) N N, .slice none 0 0, .int .i64 0, .bool false, .bool false, .int .i64 0] 173 (0, 0)) :=
        (Below.heap_setCell wq ⟨w.heap.size, k, none⟩ _ gg (Ne.symm hne)).trans ((hq2.block gg glg).trans hb)
      clear c1q hlq clq flq hq hq2 c1 hown hlb hkc
      go_wp2
      go_roundw
      case rel =>
        refine ⟨k + 1, ss.set k ⟨(Lib.repeatL [0] Z).toArray⟩, by omega, by go_num, by rw [List.length_set]; exact hl, fun j hj hjk => ?_, hbg, ?_, hBq.setCell (p := ⟨w.heap.size, k, none⟩) (Nat.le_refl _) _⟩
        · rw [List.getElem_set]
          split
          · exact zeros_size Z
          · exact hz j (by simpa using hj) (by omega)
        · unfold strs at hst ⊢
          rwa [List.map_set]
      case measure => simp [intOf]; omega
    · obtain rfl : k = N := by omega
      go_wp2
      go_ret2
      exact ⟨gg, _, rfl, ⟨⟨0, hb⟩, Nat.le_of_lt hgl', ⟨ss, hl, fun s hs => by obtain ⟨j, hj, rfl⟩ := List.getElem_of_mem hs; exact hz j hj (by omega), hown⟩, ⟨[], rfl, fun p hp => by simp at hp, ⟨rfl, .inl ⟨rfl, rfl⟩⟩⟩⟩, hB⟩
end Go.Proofs.YtpniccllpfonfaaGreatDoor.St
namespace Go.Proofs.YtpniccllpfonfaaGreatDoor.St
open Go Go.RowKit Go.Proofs.YtpniccllpfonfaaGreatDoorW.PrintWords Go.Proofs.YtpniccllpfonfaaGreatDoor.Wd
structure Wl (B : Nat) (w : World) (gw gd N Z : Nat) (vl vc vw : Value) (full : Bool) (n h p : Nat) (ws : List ByteArray) : Prop where
  dk : Dk B w gd N Z vl vc full n
  blk : w.heap[gw]? = some (.cells #[.pointer (some ⟨gd, 0, none⟩), .int .i64 (h : Int), .int .i64 (p : Int), vw] 183 (0, 0))
  g0 : B ≤ gw
  wait : w.ownsRow B 9 1 vw ws.length (strs ws)
  apart : ∀ k, vw.ownBlock = some k → vl.ownBlock ≠ some k
  dim : 4 ≤ N ∧ N ≤ 4096 ∧ 16 ≤ Z ∧ Z ≤ 256
  half : h ≤ 1
def WlS (gw gd : Nat) (vl vc vw : Value) (k : Nat) : Prop := DkS gd vl vc k ∨ k = gw ∨ vw.ownBlock = some k
section
variable {B : Nat} {w w' : World} {gw gd N Z n h p : Nat} {vl vc vw : Value} {full : Bool} {ws : List ByteArray}
theorem Wl.lt (H : Wl B w gw gd N Z vl vc vw full n h p ws) : gw < w.heap.size := (Array.getElem?_eq_some_iff.1 H.blk).1
theorem Wl.turn {S : Nat → Prop} (H : Wl B w gw gd N Z vl vc vw full n h p ws) (hk : Turn w w' S) (hS : ∀ k, WlS gw gd vl vc vw k → ¬ S k) : Wl B w' gw gd N Z vl vc vw full n h p ws :=
  ⟨H.dk.turn hk (hS _ (.inl (.inl rfl))) (fun k e => hS k (.inl (.inr (.inl e)))) (fun k e => hS k (.inl (.inr (.inr e)))), (hk.block H.lt (hS _ (.inr (.inl rfl)))).trans H.blk, H.g0, rowE_turn H.wait hk (fun k e => hS k (.inr (.inr e))), H.apart, H.dim, H.half⟩
theorem Wl.ofBelow (H : Wl B w gw gd N Z vl vc vw full n h p ws) (hb : Below w.heap.size w w') : Wl B w' gw gd N Z vl vc vw full n h p ws :=
  H.turn (Turn.of_below hb (fun _ => False)) (fun _ _ => id)
theorem Wl.geB (H : Wl B w gw gd N Z vl vc vw full n h p ws) : ∀ k, WlS gw gd vl vc vw k → B ≤ k := by
  rintro k (e | e | e)
  · exact H.dk.geB k e
  · rw [e]; exact H.g0
  · exact (H.wait.lt k e).1
theorem Wl.ltS (H : Wl B w gw gd N Z vl vc vw full n h p ws) : ∀ k, WlS gw gd vl vc vw k → k < w.heap.size := by
  rintro k (e | e | e)
  · exact H.dk.ltS k e
  · rw [e]; exact H.lt
  · exact (H.wait.lt k e).2
theorem Wl.out (H : Wl B w gw gd N Z vl vc vw full n h p ws) : (¬ DkS gd vl vc gw) ∧ ∀ k, vw.ownBlock = some k → ¬ DkS gd vl vc k := by
  obtain ⟨ops, hb⟩ := H.dk.blk
  obtain ⟨ss, a1, a2, a3⟩ := H.dk.row
  obtain ⟨cs, b1, b2, b3⟩ := H.dk.cache
  refine ⟨?_, fun k hk => ?_⟩
  · rintro (e | e | e)
    · rw [← e, H.blk] at hb; injection hb with e1; injection e1 with _ e2; exact absurd e2 (by decide)
    · exact rowE_ne a3 H.blk (by decide) e
    · exact rowE_ne b3 H.blk (by decide) e
  · rintro (e | e | e)
    · exact rowE_ne H.wait hb (by decide) (e ▸ hk)
    · exact H.apart k hk e
    · exact rowE_apart H.wait b3 (by decide) k hk e
theorem Wl.own_ne (H : Wl B w gw gd N Z vl vc vw full n h p ws) : ∀ k, vw.ownBlock = some k → k ≠ gw := fun k hk e => rowE_ne H.wait H.blk (by decide) (e ▸ hk)
def half_ (N : Nat) : Nat := (N - 1) / 2
set_option maxRecDepth 100000 in
set_option maxHeartbeats 2000000 in
theorem wsectors_any (H : Wl B w gw gd N Z vl vc vw full n h p ws) : Calls Tryz.prog 175 #[.pointer (some ⟨gw, 0, none⟩)] w fun e w' => e = .returned (.int .i64 (half_ N : Int)) ∧ w' = w := by
  have c0 : w.cell? ⟨gw, 0, none⟩ = some (.pointer (some ⟨gd, 0, none⟩)) := blk_cell H.blk 0
  have hd := H.dim
  have i0 : (0 : Int) ≤ (N : Int) - 1 := by omega
  have i1 : (N : Int) ≤ 4096 := by omega
  have e1 : ((N : Int) - 1) / 2 = (half_ N : Int) := by unfold half_; omega
  have E1 := Lib.hid e1
  clear e1
  go_enter Tryz.func175, Tryz.ntmps175
  go_wp2_with (go_at_call 209; (with_reducible refine (sectors_any H.dk).mono ?_); rintro e w' ⟨rfl, rfl⟩)
  go_ret
  exact ⟨by rw [E1.out]; rfl, rfl⟩
theorem cap_le (N Z : Nat) (h1 : N ≤ 4096) (h2 : Z ≤ 256) : half_ N * Z ≤ 2048 * 256 := Nat.mul_le_mul (by unfold half_; omega) h2
set_option maxRecDepth 100000 in
set_option maxHeartbeats 2000000 in
theorem wbytes_any (H : Wl B w gw gd N Z vl vc vw full n h p ws) : Calls Tryz.prog 131 #[.pointer (some ⟨gw, 0, none⟩)] w fun e w' => e = .returned (.int .i64 ((half_ N * Z : Nat) : Int)) ∧ ∃ m, w' = w.drewN m := by
  have c0 : w.cell? ⟨gw, 0, none⟩ = some (.pointer (some ⟨gd, 0, none⟩)) := blk_cell H.blk 0
  have hd := H.dim
  have hc := cap_le N Z hd.2.1 hd.2.2.2
  have hw1 : IntKind.i64.wrap ((half_ N : Int) * (Z : Int)) = ((half_ N * Z : Nat) : Int) := by
    rw [IntKind.wrap_i64, show (half_ N : Int) * (Z : Int) = ((half_ N * Z : Nat) : Int) by simp]
    omega
  go_enter Tryz.func131, Tryz.ntmps131
  go_wp2_with (fail)
  go_quiet (first | (go_at_call 175; exact Calls.quiet_of_same (wsectors_any (H.ofBelow (pw_below_drewN (Below.refl _ _) _)))) | (go_at_call 132; exact Calls.quiet_of_same (size_any (H.ofBelow (pw_below_drewN (Below.refl _ _) _)).dk)))
  go_wp2_with (fail)
  go_ret
  exact ⟨by show Ending.returned (.int .i64 ((half_ N : Int) * (Z : Int))) = _; rw [Int.natCast_mul], _, rfl⟩
def secOf (N Z h i : Nat) : Nat := 1 + h * half_ N + i / Z
theorem secOf_lt {N Z h i : Nat} (hd : 4 ≤ N ∧ N ≤ 4096 ∧ 16 ≤ Z ∧ Z ≤ 256) (hh : h ≤ 1) (hi : i < half_ N * Z) : secOf N Z h i < N := by
  have h1 : i / Z < half_ N := Nat.div_lt_of_lt_mul (by rw [Nat.mul_comm]; exact hi)
  have h2 : h * half_ N ≤ 1 * half_ N := Nat.mul_le_mul_right _ hh
  have h3 : 2 * half_ N ≤ N - 1 := by unfold half_; omega
  unfold secOf
  omega
set_option maxRecDepth 100000 in
set_option maxHeartbeats 4000000 in
theorem wsector_any (H : Wl B w gw gd N Z vl vc vw full n h p ws) (h' i : Nat) (hh : h' ≤ 1) (hi : i < 1000000) : Calls Tryz.prog 207 #[.pointer (some ⟨gw, 0, none⟩), .int .i64 (h' : Int), .int .i64 (i : Int)] w fun e w' => e = .returned (.int .i64 (secOf N Z h' i : Int)) ∧ ∃ m, w' = w.drewN m := by
  have c0 : w.cell? ⟨gw, 0, none⟩ = some (.pointer (some ⟨gd, 0, none⟩)) := blk_cell H.blk 0
  have hd := H.dim
  have hS : half_ N ≤ 2048 := by unfold half_; omega
  have hm : h' * half_ N ≤ 1 * half_ N := Nat.mul_le_mul_right _ hh
  have hdv : i / Z ≤ i := Nat.div_le_self _ _
  have hw1 : IntKind.i64.wrap ((h' : Int) * (half_ N : Int)) = ((h' * half_ N : Nat) : Int) := by
    rw [IntKind.wrap_i64, show (h' : Int) * (half_ N : Int) = ((h' * half_ N : Nat) : Int) by simp]
    omega
  have hw2 : IntKind.i64.wrap (1 + (h' : Int) * (half_ N : Int)) = ((1 + h' * half_ N : Nat) : Int) := by
    rw [IntKind.wrap_i64, show 1 + (h' : Int) * (half_ N : Int) = ((1 + h' * half_ N : Nat) : Int) by simp]
    omega
  have he : wrap64 (1 + (h' : Int) * (half_ N : Int) + wrap64 ((i : Int) / (Z : Int))) = (secOf N Z h' i : Int) := by
    rw [← Int.natCast_ediv, ← Int.natCast_mul]
    unfold secOf
    generalize h' * half_ N = q at hm hw1 hw2 ⊢
    generalize i / Z = d at hdv ⊢
    clear hw1 hw2
    rw [wr_id (d : Int) (by omega) (by omega), wr_id _ (by omega) (by omega)]
    omega
  have HE := Lib.hid he
  clear he
  have zn : ¬ (Z : Int) = 0 := by omega
  go_enter Tryz.func207, Tryz.ntmps207
  go_wp2_with (fail)
  go_quiet (first | (go_at_call 175; exact Calls.quiet_of_same (wsectors_any (H.ofBelow (pw_below_drewN (Below.refl _ _) _)))) | (go_at_call 132; exact Calls.quiet_of_same (size_any (H.ofBelow (pw_below_drewN (Below.refl _ _) _)).dk)))
  go_wp2_with (fail)
  go_ret
  exact ⟨by show Ending.returned (.int .i64 (wrap64 (1 + (h' : Int) * (half_ N : Int) + wrap64 ((i : Int) / (Z : Int))))) = _; rw [HE.out], _, rfl⟩
end
end Go.Proofs.YtpniccllpfonfaaGreatDoor.St
namespace Go.Proofs.YtpniccllpfonfaaGreatDoor.St
open Go Go.RowKit Go.Proofs.YtpniccllpfonfaaGreatDoorW.PrintWords Go.Proofs.YtpniccllpfonfaaGreatDoor.Wd
section
variable {B : Nat} {w w' : World} {gw gd N Z n h p : Nat} {vl vc vw : Value} {full : Bool} {ws : List ByteArray}
theorem Wl.disk {vc5 : Value} {full5 : Bool} {m : Nat} (H : Wl B w gw gd N Z vl vc vw full n h p ws) (hD : Dk B w' gd N Z vl vc5 full5 m) (hT : Turn w w' (DkS gd vl vc)) : Wl B w' gw gd N Z vl vc5 vw full5 m h p ws :=
  ⟨hD, (hT.block H.lt H.out.1).trans H.blk, H.g0, rowE_turn H.wait hT H.out.2, H.apart, H.dim, H.half⟩
def RW (B : Nat) (w : World) (gw gd N Z h p : Nat) (vl vc vw : Value) (ws : List ByteArray) (L : Nat) (vi vs : Value) (wr : World) : Prop :=
  ∃ (i : Nat) (s : ByteArray) (vc' : Value) (n' : Nat), vi = .int .i64 (i : Int) ∧ vs = .string s ∧ i + s.size ≤ half_ N * Z ∧ n' + s.size ≤ L ∧ Wl B wr gw gd N Z vl vc' vw false n' h p ws ∧ Turn w wr (DkS gd vl vc) ∧ Grow w vc vc'
def strSize : Value → Nat
  | .string s => s.size
  | _ => 0
theorem str_ne {s : ByteArray} (h : 0 < s.size) : (s.toList == ([] : List UInt8)) = false := by
  rw [Lib.toList_data]
  cases h1 : (s.data.toList == ([] : List UInt8)) with
  | false => rfl
  | true =>
    have h2 : s.data.toList = [] := by simpa using h1
    have h3 : s.data.toList.length = s.size := Array.length_toList
    rw [h2] at h3
    simp at h3
    omega
theorem str_nil {s : ByteArray} (h : s.size = 0) : s.toList = [] := by
  rw [Lib.toList_data]
  have h3 : s.data.toList.length = s.size := Array.length_toList
  exact List.eq_nil_of_length_eq_zero (by omega)
set_option maxRecDepth 100000 in
set_option maxHeartbeats 8000000 in
theorem wwrite_any (H : Wl B w gw gd N Z vl vc vw false n h p ws) (hB : B ≤ w.heap.size) (h' i : Nat) (hh : h' ≤ 1) (s : ByteArray) (hi : i + s.size ≤ half_ N * Z) (hn : n + s.size < 1000000) :
    Calls Tryz.prog 171 #[.pointer (some ⟨gw, 0, none⟩), .int .i64 (h' : Int), .int .i64 (i : Int), .string s] w fun e w' => ∃ vc' n', e = .returned (.int .i64 0) ∧ Wl B w' gw gd N Z vl vc' vw false n' h p ws ∧ n' ≤ n + s.size ∧ Turn w w' (DkS gd vl vc) ∧ Grow w vc vc' := by
  have hd := H.dim
  have hcap := cap_le N Z hd.2.1 hd.2.2.2
  go_enter Tryz.func171, Tryz.ntmps171
  go_wp2_with (fail)
  go_loopw [2, 3] (fun vi vs wr => RW B w gw gd N Z h p vl vc vw ws (n + s.size) vi vs wr) (fun _ vs _ => strSize vs)
  case atStart => exact ⟨i, s, vc, n, rfl, rfl, hi, Nat.le_refl _, H, Turn.refl _ _, Grow.refl _ _⟩
  case round =>
    obtain ⟨i, s1, vc', n', rfl, rfl, hi1, hn1, H1, hT, hG⟩ := hrel
    have c0 : wr.cell? ⟨gw, 0, none⟩ = some (.pointer (some ⟨gd, 0, none⟩)) := blk_cell H1.blk 0
    rcases Nat.eq_zero_or_pos s1.size with hz | hz
    · have he := str_nil hz
      go_wp2_with (fail)
      go_ret
      exact ⟨vc', n', rfl, H1, by omega, hT, hG⟩
    · have he := str_ne hz
      have hiZ : i < half_ N * Z := by omega
      have hsec := secOf_lt (h := h') hd hh hiZ
      have sec0 : (0 : Int) ≤ (secOf N Z h' i : Int) := by omega
      have sec1 : (secOf N Z h' i : Int) < (N : Int) := by omega
      go_wp2_with (fail)
      go_region_held3 (fun w' => w'.cell? ⟨gw, 0, none⟩ = some (.pointer (some ⟨gd, 0, none⟩))) (go_keep) (first
        | (go_at_call 207; refine (wsector_any (H1.ofBelow ?hb1) h' i hh (by omega)).mono ?_; (case hb1 => exact ⟨rfl, rfl, rfl, Nat.le_refl _, fun _ _ => rfl⟩); rintro e w1 ⟨rfl, m1, rfl⟩)
        | (go_at_call 206; refine (read_any (H1.ofBelow ?hb2).dk (by omega) _ sec0 sec1 (by omega)).mono ?_; (case hb2 => exact ⟨rfl, rfl, rfl, Nat.le_refl _, fun _ _ => rfl⟩); rintro e w2 ⟨old, rfl, hold, rfl⟩))
      have hw2 : ∃ wr1, wr1 = wr.drewN (1 + m1) := ⟨_, rfl⟩
      obtain ⟨wr1, hwr1⟩ := hw2
      have bx : Below wr.heap.size wr wr1 := by rw [hwr1]; exact ⟨rfl, rfl, rfl, Nat.le_refl _, fun _ _ => rfl⟩
      have H2 := H1.ofBelow bx
      have hT2 := hT.then_ (Turn.of_below bx (fun _ => False)) (fun _ h => h.elim)
      have hsz2 : wr1.heap.size = wr.heap.size := by rw [hwr1]; rfl
      rw [← hwr1]
      clear hwr1 bx
      have c0 : wr1.cell? ⟨gw, 0, none⟩ = some (.pointer (some ⟨gd, 0, none⟩)) := blk_cell H2.blk 0
      have zn : ¬ (Z : Int) = 0 := by omega
      go_wp2_with (go_at_call 132; (with_reducible refine (size_any H2.dk).mono ?_); rintro e w' ⟨rfl, rfl⟩)
      have hz0 : i % Z < Z := Nat.mod_lt _ (by omega)
      have e11 : ((i : Int) % (Z : Int)) = ((i % Z : Nat) : Int) := by simp
      obtain ⟨f, hf⟩ : ∃ f, f = i % Z := ⟨_, rfl⟩
      obtain ⟨nn, hnn⟩ : ∃ nn, nn = min s1.size (Z - f) := ⟨_, rfl⟩
      rw [← hf] at e11 hz0
      have e12 : min (s1.size : Int) (wrap64 ((Z : Int) - (i : Int) % (Z : Int))) = (nn : Int) := by
        rw [e11, wr_id _ (by omega) (by omega), hnn]
        omega
      rw [e12, e11]
      have hn0 : 1 ≤ nn := by omega
      have hn2 : nn ≤ s1.size := by omega
      have hn3 : f + nn ≤ Z := by omega
      clear e11 e12 hnn hf he
      have hfo : f ≤ old.size := by omega
      have hfn : f + nn ≤ old.size := by omega
      have w1 : IntKind.i64.wrap ((f : Int) + (nn : Int)) = (f : Int) + (nn : Int) := by rw [IntKind.wrap_i64]; omega
      have w2 : (0 : Int) ≤ (f : Int) + (nn : Int) := by omega
      have w3 : ((f : Int) + (nn : Int)).toNat = f + nn := by omega
      have w4 : (f : Int) + (nn : Int) ≤ (old.size : Int) := by omega
      have w7 : (f : Int) ≤ (old.size : Int) := by omega
      have w6 : (nn : Int) ≤ (s1.size : Int) := by omega
      have q1 : ¬ 9223372036854775807 < f + nn := by omega
      have q2 : ¬ 9223372036854775807 < old.size := by omega
      have hsz : (old.extract 0 f ++ s1.extract 0 nn ++ old.extract (f + nn) old.size).size = Z := by
        simp only [ByteArray.size_append, ByteArray.size_extract]
        omega
      have HSZ := Lib.hid hsz
      clear hsz hold
      go_region_held3 (fun w' => w'.cell? ⟨gw, 0, none⟩ = some (.pointer (some ⟨gd, 0, none⟩))) (go_keep) (first
        | (go_at_call 207; refine (wsector_any (H2.ofBelow ?hb3) h' i hh (by omega)).mono ?_; (case hb3 => exact ⟨rfl, rfl, rfl, Nat.le_refl _, fun _ _ => rfl⟩); rintro e w1 ⟨rfl, m2, rfl⟩)
        | (go_at_call 133; go_must (refine (write_any (H2.ofBelow ?hb4).dk (by omega) (by show B ≤ w'.heap.size; have := hT2.size; omega) (secOf N Z h' i) (by omega) _ HSZ.out).mono ?_); (case hb4 => exact ⟨rfl, rfl, rfl, Nat.le_refl _, fun _ _ => rfl⟩); rintro e w5 ⟨vc5, rfl, hD5, hT5, hG5⟩; have b5 := (hT5.block (k := gw) H2.lt H2.out.1).trans H2.blk; have c5 : w5.cell? ⟨gw, 0, none⟩ = some (.pointer (some ⟨gd, 0, none⟩)) := blk_cell b5 0))
      have H2' : Wl B (w'.drewN (1 + m2)) gw gd N Z vl vc' vw false n' h p ws := H2.ofBelow ⟨rfl, rfl, rfl, Nat.le_refl _, fun _ _ => rfl⟩
      have H5 := H2.disk hD5 ⟨hT5.os, hT5.tape, hT5.output, hT5.kept⟩
      have hT6 : Turn w w5 (DkS gd vl vc) := hT2.then_ (T := DkS gd vl vc') ⟨hT5.os, hT5.tape, hT5.output, hT5.kept⟩ (fun k hk => by
        rcases hk with e | e | e
        · exact .inl (.inl e)
        · exact .inl (.inr (.inl e))
        · rcases hG k e with h9 | h9
          · exact .inl (.inr (.inr h9))
          · exact .inr h9)
      have hG6 : Grow w vc vc5 := hG.then_ (w' := w') (fun k hk => hG5 k hk) hT2.size
      clear H2' H2 hT2 hT5 hG5 hD5 b5 c5 HSZ w1 w2 w3 w4 w7 w6 q1 q2
      go_wp2
      go_quiet (fail)
      go_wp2
      have hse : (s1.extract nn s1.size).size = s1.size - nn := by rw [ByteArray.size_extract]; omega
      refine ⟨⟨i + nn, s1.extract nn s1.size, vc5, n' + 1, by simp, rfl, by omega, by omega, H5.ofBelow ⟨rfl, rfl, rfl, Nat.le_refl _, fun _ _ => rfl⟩, ⟨hT6.os, hT6.tape, hT6.output, hT6.kept⟩, hG6⟩, ?_⟩
      show (s1.extract nn s1.size).size < s1.size
      omega
set_option maxRecDepth 100000 in
set_option maxHeartbeats 4000000 in
theorem wflushed_any (H : Wl B w gw gd N Z vl vc vw false n h p ws) (hB : B ≤ w.heap.size) (h' i : Nat) (hh : h' ≤ 1) (s : ByteArray) (hi : i + s.size ≤ half_ N * Z) (hn : n + s.size < 1000000) :
    Calls Tryz.prog 129 #[.pointer (some ⟨gw, 0, none⟩), .int .i64 (h' : Int), .int .i64 (i : Int), .string s] w fun e w' => e = .returned (.int .i64 0) ∧ Wl B w' gw gd N Z vl (.slice none 0 0) vw false 0 h p ws ∧ Turn w w' (DkS gd vl vc) := by
  have hd := H.dim
  go_enter Tryz.func129, Tryz.ntmps129
  go_wp2_with (go_at_call 171; (with_reducible refine (wwrite_any H hB h' i hh s hi hn).mono ?_); rintro e w1 ⟨vc1, n1, rfl, H1, hn1, hT1, hG1⟩; have c0 : w1.cell? ⟨gw, 0, none⟩ = some (.pointer (some ⟨gd, 0, none⟩)) := blk_cell H1.blk 0)
  (go_at_call 134; (with_reducible refine (flush_any H1.dk (by omega) (by omega)).mono ?_); rintro e w2 ⟨rfl, hD2, hT2⟩)
  have H2 := H1.disk hD2 hT2
  go_wp2
  go_ret
  refine ⟨rfl, H2, hT1.then_ hT2 (fun k hk => ?_)⟩
  rcases hk with e | e | e
  · exact .inl (.inl e)
  · exact .inl (.inr (.inl e))
  · rcases hG1 k e with h9 | h9
    · exact .inl (.inr (.inr h9))
    · exact .inr h9
end
end Go.Proofs.YtpniccllpfonfaaGreatDoor.St
namespace Go.Proofs.YtpniccllpfonfaaGreatDoor.St
open Go Go.RowKit Go.Proofs.YtpniccllpfonfaaGreatDoorW.PrintWords Go.Proofs.YtpniccllpfonfaaGreatDoor.Wd Go.Proofs.YtpniccllpfonfaaGreatDoor.Q
theorem wr_succ (i : Nat) (h : i < 1000000000) : wrap64 ((i : Int) + 1) = ((i + 1 : Nat) : Int) := by
  rw [wr_id _ (by omega) (by omega)]
  omega
theorem step_tot : ∀ (m : Nat) (x0 : Int) (i k : Nat), 8 - i ≤ m → i ≤ 8 → m < k → ∃ r, crc_step.l0 k x0 (i : Int) = some r
  | 0, x0, i, k + 1, h1, h2, _ => by
    unfold crc_step.l0
    rw [if_neg (by omega)]
    exact ⟨_, rfl⟩
  | m + 1, x0, i, k + 1, h1, h2, h3 => by
    unfold crc_step.l0
    by_cases hi : i < 8
    · rw [if_pos (by omega), wr_succ i (by omega)]
      split
      · exact step_tot m _ (i + 1) k (by omega) (by omega) (by omega)
      · exact step_tot m _ (i + 1) k (by omega) (by omega) (by omega)
    · rw [if_neg (by omega)]
      exact ⟨_, rfl⟩
theorem add_tot (s : ByteArray) (hs : s.size < 100000000) : ∀ (m : Nat) (x5 : Int) (i k : Nat), s.size - i ≤ m → i ≤ s.size → m + 20 < k → ∃ r, crc_Add.l0 k s x5 (s.size : Int) (i : Int) = some r
  | 0, x5, i, k + 1, h1, h2, _ => by
    unfold crc_Add.l0
    rw [if_neg (by omega)]
    exact ⟨_, rfl⟩
  | m + 1, x5, i, k + 1, h1, h2, h3 => by
    unfold crc_Add.l0
    by_cases hi : i < s.size
    · obtain ⟨r, hr⟩ := step_tot 8 (Go.bits .xor .u32 x5 ((bt s (i : Int)) % 4294967296)) 0 k (by omega) (by omega) (by omega)
      rw [if_pos (by omega), if_pos (by omega), if_pos (by omega), wr_succ i (by omega)]
      unfold crc_step.f
      rw [show ((0 : Nat) : Int) = 0 from rfl] at hr
      rw [hr]
      exact add_tot s hs m r (i + 1) k (by omega) (by omega) (by omega)
    · rw [if_neg (by omega)]
      exact ⟨_, rfl⟩
theorem sum_tot (s : ByteArray) (hs : s.size < 100000000) : ∃ r, crc_Sum.f 200000000 s = some r := by
  obtain ⟨r, hr⟩ := add_tot s hs s.size (Go.bits .xor .u32 Go.IntKind.u32.max 0) 0 200000000 (by omega) (by omega) (by omega)
  refine ⟨r, ?_⟩
  unfold crc_Sum.f crc_Add.f
  rw [show ((0 : Nat) : Int) = 0 from rfl] at hr
  rw [hr]
  rfl
section
variable {B : Nat} {w w' : World} {gw gd N Z n h p : Nat} {vl vc vw : Value} {full : Bool} {ws : List ByteArray}
theorem four_size (a b c d : Int) : (strOfNums [a, b, c, d]).size = 4 := by rw [strOfNums_size]; rfl
theorem conv_cell (W : World) (b : Nat) (flag : Int) (fa : ByteArray) (hf : fa = strOfNums [flag]) (h : W.cell? ⟨b, 0, none⟩ = some (.int .u8 flag)) : (convert 169 9 (.slice (some ⟨b, 0, none⟩) 1 1)).run Tryz.prog W = .ok (.string fa) W := by
  rw [hf]
  exact run_convert_bytes_arg (P := Tryz.prog) W 169 5 Tryz.underlying169 Tryz.underlying5 b 0 1 1 [flag] rfl (fun i hi => by
    obtain rfl : i = 0 := by omega
    exact h) 9 Tryz.underlying9
theorem sum_ex (s : ByteArray) (r : Int) (h : crc_Sum.f 200000000 s = some r) (w : World) : Calls Tryz.prog 174 #[.string s] w fun e w' => e = .returned (.int .u32 r) ∧ Below w.heap.size w w' :=
  (crc_Sum.calls 200000000 s r w h).mono fun _ _ ⟨h1, m, h2⟩ => ⟨h1, by rw [h2]; exact ⟨rfl, rfl, rfl, Nat.le_refl _, fun _ _ => rfl⟩⟩
theorem number_ex (x : Int) (w : World) : Calls Tryz.prog 172 #[.int .i64 x] w fun e w' => ∃ s : ByteArray, e = .returned (.string s) ∧ s.size = 4 ∧ Below w.heap.size w w' :=
  (wal_number.calls x _ w rfl).mono fun _ _ ⟨h1, h2⟩ => ⟨_, h1, four_size _ _ _ _, h2⟩
theorem cbytes_ex (x : Int) (w : World) : Calls Tryz.prog 173 #[.int .u32 x] w fun e w' => ∃ s : ByteArray, e = .returned (.string s) ∧ s.size = 4 ∧ Below w.heap.size w w' :=
  (crc_Bytes.calls x _ w rfl).mono fun _ _ ⟨h1, h2⟩ => ⟨_, h1, four_size _ _ _ _, h2⟩
set_option maxRecDepth 100000 in
set_option maxHeartbeats 8000000 in
theorem frame_any {a : Option Addr} {c m : Nat} {l : List ByteArray} {flag : Int} (h : Texts w a l) (hl : l.length < 1000000) (hm : ∀ s ∈ l, s.size ≤ m) (hm2 : m < 100000000) (hr : (rowL l).length < 10000000) :
    Calls Tryz.prog 130 #[.int .u8 flag, .slice a l.length c] w fun e w' => ∃ s : ByteArray, e = .returned (.string s) ∧ s.size = 9 + (rowL l).length ∧ Below w.heap.size w w' := by
  obtain ⟨r, hsum⟩ := sum_tot ⟨(rowL l).toArray⟩ (by rw [size_mk]; omega)
  go_enter Tryz.func130, Tryz.ntmps130
  go_wp2_with (go_at_call 114; (with_reducible refine (row_any h hl hm hm2).mono ?_); rintro e w1 ⟨rfl, hb1⟩)
  obtain ⟨fa, hfa⟩ : ∃ fa, fa = strOfNums [flag] := ⟨_, rfl⟩
  have kall := fun W b h => conv_cell W b flag fa hfa h
  have hf1 : fa.size = 1 := by rw [hfa, strOfNums_size]; rfl
  clear hfa
  obtain ⟨rw_, hrw⟩ : ∃ rw_ : ByteArray, rw_ = ⟨(rowL l).toArray⟩ := ⟨_, rfl⟩
  have hrs : rw_.size = (rowL l).length := by rw [hrw, size_mk]
  have HRS := Lib.hid hrs
  have hq1 : ¬ 9223372036854775807 < 9 + rw_.size := by omega
  have hq2 : 9 + rw_.size ≤ 9223372036854775807 := by omega
  rw [← hrw] at hsum ⊢
  clear hrs hrw
  go_region_with (first
    | (go_at_call 172; refine (number_ex _ _).mono ?_; rintro e w2 ⟨s4, rfl, h4, hb2⟩; (try (have z2 : w2.cell? ⟨w1.heap.size, 0, none⟩ = some (.int .u8 flag) := by (rw [hb2.cell (p := ⟨w1.heap.size, 0, none⟩) (by simp)]; simp))))
    | (go_at_call 174; refine (sum_ex _ r hsum _).mono ?_; rintro e w3 ⟨rfl, hb3⟩; (try (have y1 : w3.cell? ⟨w1.heap.size, 0, none⟩ = some (.int .u8 flag) := by (rw [hb3.cell (p := ⟨w1.heap.size, 0, none⟩) (by first | (simp; done) | (have hs0 := hb2.size; simp at *; omega))]; first | (simp; done) | (simpa using z2)))); (try (have y2 : w3.cell? ⟨w2.heap.size, 0, none⟩ = some (.int .u8 flag) := by (rw [hb3.cell (p := ⟨w2.heap.size, 0, none⟩) (by first | (simp; done) | (have hs0 := hb2.size; simp at *; omega))]; first | (simp; done) | (simpa using z2)))))
    | (go_at_call 173; refine (cbytes_ex _ _).mono ?_; rintro e w4 ⟨s5, rfl, h5, hb4⟩; (try (have u1 : w4.cell? ⟨w1.heap.size, 0, none⟩ = some (.int .u8 flag) := by (rw [hb4.cell (p := ⟨w1.heap.size, 0, none⟩) (by first | (simp; done) | (have hs0 := hb2.size; have hs1 := hb3.size; simp at *; omega))]; first | (simp; done) | (simpa using y1)))); (try (have u2 : w4.cell? ⟨w2.heap.size, 0, none⟩ = some (.int .u8 flag) := by (rw [hb4.cell (p := ⟨w2.heap.size, 0, none⟩) (by first | (simp; done) | (have hs0 := hb2.size; have hs1 := hb3.size; simp at *; omega))]; first | (simp; done) | (simpa using y2)))); (try (have u3 : w4.cell? ⟨w3.heap.size, 0, none⟩ = some (.int .u8 flag) := by (rw [hb4.cell (p := ⟨w3.heap.size, 0, none⟩) (by first | (simp; done) | (have hs0 := hb2.size; have hs1 := hb3.size; simp at *; omega))]; first | (simp; done) | (simpa using y2)))))
    | fail)
  all_goals go_wp2
  all_goals go_ret
  all_goals
    refine ⟨fa ++ s4 ++ s5 ++ rw_, rfl, by simp only [ByteArray.size_append, hf1, h4, h5, HRS.out], ?_⟩
    repeat (with_reducible first | exact hb1 | refine below_step ?_ hb4 | refine below_step ?_ hb3 | refine below_step ?_ hb2 | apply below_alloc | apply pw_below_drewN | apply below_drew1)
end
end Go.Proofs.YtpniccllpfonfaaGreatDoor.St
namespace Go.Proofs.YtpniccllpfonfaaGreatDoor.St
open Go Go.RowKit Go.Proofs.YtpniccllpfonfaaGreatDoorW.PrintWords Go.Proofs.YtpniccllpfonfaaGreatDoor.Wd Go.Proofs.YtpniccllpfonfaaGreatDoor.Q
section
variable {B : Nat} {w w' : World} {gw gd N Z n h p : Nat} {vl vc vw : Value} {full : Bool} {ws : List ByteArray}
set_option maxRecDepth 100000 in
set_option maxHeartbeats 4000000 in
theorem need_any {a : Option Addr} {c m : Nat} {l : List ByteArray} (h : Texts w a l) (hl : l.length < 1000000) (hm : ∀ s ∈ l, s.size ≤ m) (hm2 : m < 100000000) (hr : (rowL l).length < 10000000) :
    Calls Tryz.prog 127 #[.slice a l.length c] w fun e w' => e = .returned (.int .i64 ((9 + (rowL l).length : Nat) : Int)) ∧ Below w.heap.size w w' := by
  obtain ⟨rw_, hrw⟩ : ∃ rw_ : ByteArray, rw_ = ⟨(rowL l).toArray⟩ := ⟨_, rfl⟩
  have hrs : rw_.size = (rowL l).length := by rw [hrw, size_mk]
  go_enter Tryz.func127, Tryz.ntmps127
  go_wp2_with (go_at_call 114; (with_reducible refine (row_any h hl hm hm2).mono ?_); rintro e w1 ⟨rfl, hb1⟩; rw [← hrw])
  go_ret
  exact ⟨by show Ending.returned (.int .i64 (9 + ((rowL l).length : Int))) = _; rw [Int.natCast_add]; rfl, hb1⟩
set_option maxRecDepth 100000 in
set_option maxHeartbeats 4000000 in
theorem room_any (H : Wl B w gw gd N Z vl vc vw full n h p ws) (hp : p + 1 ≤ half_ N * Z) : Calls Tryz.prog 128 #[.pointer (some ⟨gw, 0, none⟩)] w fun e w' => e = .returned (.int .i64 ((half_ N * Z - p - 1 : Nat) : Int)) ∧ ∃ m, w' = w.drewN m := by
  have c2 : w.cell? ⟨gw, 2, none⟩ = some (.int .i64 (p : Int)) := blk_cell H.blk 2
  have hd := H.dim
  have hc := cap_le N Z hd.2.1 hd.2.2.2
  obtain ⟨K, hK⟩ : ∃ K, K = half_ N * Z := ⟨_, rfl⟩
  have hcall : ∀ w5 : World, Below w.heap.size w w5 → _ := fun w5 hb5 => wbytes_any (H.ofBelow hb5)
  rw [← hK] at hc hp hcall ⊢
  clear hK
  have e0 : (K : Int) - (p : Int) - 1 = ((K - p - 1 : Nat) : Int) := by omega
  have e1 : wrap64 ((K : Int) - (p : Int)) = (K : Int) - (p : Int) := wr_id _ (by omega) (by omega)
  have e2 : wrap64 ((K : Int) - (p : Int) - 1) = ((K - p - 1 : Nat) : Int) := by rw [wr_id _ (by omega) (by omega)]; exact e0
  have e3 : IntKind.i64.wrap ((K : Int) - (p : Int)) = (K : Int) - (p : Int) := by rw [IntKind.wrap_i64]; omega
  have e4 : IntKind.i64.wrap ((K : Int) - (p : Int) - 1) = ((K - p - 1 : Nat) : Int) := by rw [IntKind.wrap_i64, e0]; omega
  clear e0
  go_enter Tryz.func128, Tryz.ntmps128
  go_wp2_with (fail)
  go_region_held3 (fun w' => w'.cell? ⟨gw, 2, none⟩ = some (.int .i64 (p : Int))) (go_keep) (first
    | (go_at_call 131; refine (hcall _ ?hb1).mono ?_; (case hb1 => exact ⟨rfl, rfl, rfl, Nat.le_refl _, fun _ _ => rfl⟩); rintro e w1 ⟨rfl, m1, rfl⟩)
    | fail)
  all_goals go_wp2
  all_goals go_ret
  all_goals exact ⟨rfl, _, rfl⟩
theorem strs_snoc (l : List ByteArray) (s : ByteArray) : strs (l ++ [s]) = strs l ++ [.string s] := by simp [strs]
set_option maxRecDepth 100000 in
set_option maxHeartbeats 4000000 in
theorem append_any (H : Wl B w gw gd N Z vl vc vw full n h p ws) (hB : B ≤ w.heap.size) (hn : ws.length < 1000000) (s : ByteArray) : Calls Tryz.prog 87 #[.pointer (some ⟨gw, 0, none⟩), .string s] w fun e w' => ∃ vw', e = .returned (.tuple #[]) ∧ Wl B w' gw gd N Z vl vc vw' full n h p (ws ++ [s]) ∧ Turn w w' (fun k => k = gw ∨ vw.ownBlock = some k) ∧ Grow w vw vw' := by
  obtain ⟨i0, hi0, hz0, hz1, hz2⟩ := info_parts infoS
  obtain ⟨ac, cc, rfl, _⟩ := sliceE_of H.wait
  have c3 : w.cell? ⟨gw, 3, none⟩ = some (.slice ac ws.length cc) := blk_cell H.blk 3
  have hgA : ∀ o, gw < (w.alloc o).heap.size := fun o => by rw [size_alloc]; have := H.lt; omega
  go_enter Tryz.func87, Tryz.ntmps87
  go_wp2_with (at_builtin; refine wpList_append_own_at _ rfl _ _ _ rfl B 9 i0 _ 1 16 Tryz.underlying143 hi0 hz0 hz1 hz2 rfl (by omega) (.slice ac ws.length cc) ws.length (strs ws) rfl (H.wait.alloc _) ⟨w.heap.size, 0, none⟩ 1 1 [.string s] rfl rfl (World.news_of_block (cs := #[.string s]) (t := 9) (fr := (0, 0)) (heap_alloc_new w _)) (by simp [Value.oneCell']) (by unfold maxLen; omega) (by omega) (by simp; omega) ?_; intro v2 w2 hown2 hgrow2 _ hat2; obtain ⟨a2, c2, rfl, _⟩ := sliceE_of hown2; have hb2 := (hgrow2.block gw (hgA _) (fun e => rowE_ne H.wait H.blk (by decide) e.symm)).trans ((Below.heap_alloc w _ gw H.lt).trans H.blk); have d3 := (blk_cell hb2 3).trans rfl; have f3 := blk_frozen hb2 3)
  refine Go.Great.bodyPost_end0 rfl rfl ?_
  have W := H.wait
  have tw : Turn w (w2.setCell ⟨gw, 3, none⟩ (.slice a2 (ws.length + 1) c2)) (fun k => k = gw ∨ (Value.slice ac ws.length cc).ownBlock = some k) :=
    (((Turn.refl w _).alloc _).grown hgrow2 (fun k hk => .inl (.inr hk))).setCell (p := ⟨gw, 3, none⟩) (.inl (.inl rfl)) _
  have hgr : Grow w (.slice ac ws.length cc) (.slice a2 (ws.length + 1) c2) := grow_of hat2 (by rw [size_alloc]; omega)
  refine ⟨.slice a2 (ws.length + 1) c2, rfl, ⟨H.dk.turn tw ?_ ?_ ?_, ?_, H.g0, ?_, ?_, H.dim, H.half⟩, tw, hgr⟩
  · rintro (e | e)
    · exact H.out.1 (.inl e.symm)
    · exact H.out.2 _ e (.inl rfl)
  · rintro k hk (e | e)
    · exact H.out.1 (.inr (.inl (e ▸ hk)))
    · exact H.out.2 _ e (.inr (.inl hk))
  · rintro k hk (e | e)
    · exact H.out.1 (.inr (.inr (e ▸ hk)))
    · exact H.out.2 _ e (.inr (.inr hk))
  · have := blk_set hb2 3 (.slice a2 (ws.length + 1) c2)
    simpa using this
  · rw [List.length_append, strs_snoc]
    exact rowE_of hown2 fun k hk => Below.heap_setCell w2 ⟨gw, 3, none⟩ _ k (fun e => rowE_ne hown2 hb2 (by decide) (by rw [← show k = gw from e]; exact hk))
  · intro k hk hvl
    rcases hgr k hk with h1 | h1
    · exact H.apart k h1 hvl
    · have := H.dk.ltS k (.inr (.inl hvl))
      omega
end
end Go.Proofs.YtpniccllpfonfaaGreatDoor.St
namespace Go.Proofs.YtpniccllpfonfaaGreatDoor.St
open Go Go.RowKit Go.Proofs.YtpniccllpfonfaaGreatDoorW.PrintWords Go.Proofs.YtpniccllpfonfaaGreatDoor.Wd Go.Proofs.YtpniccllpfonfaaGreatDoor.Q
section
variable {B : Nat} {w w' : World} {gd N Z n : Nat} {vl vc : Value}
def walCells (gd : Nat) : Array Value := #[.pointer (some ⟨gd, 0, none⟩), .int .i64 0, .int .i64 0, .slice none 0 0]
def RFm (B : Nat) (w : World) (gd N Z : Nat) (vl vc : Value) (n gw gs : Nat) (i : Value) (wr : World) : Prop :=
  ∃ (k : Nat) (vc' : Value) (n' : Nat), k ≤ 2 ∧ i = .int .i64 (k : Int) ∧ Dk B wr gd N Z vl vc' false n' ∧ n' ≤ n + k ∧ Turn w wr (DkS gd vl vc) ∧ Grow w vc vc' ∧ wr.heap[gw]? = some (.cells (walCells gd) 183 (0, 0)) ∧ wr.heap[gs]? = some (.cells #[.int .i64 1, .int .i64 0] 3 (0, 0))
theorem Dk.out {full : Bool} (H : Dk B w gd N Z vl vc full n) {g t : Nat} {cs : Array Value} (hb : w.heap[g]? = some (.cells cs t (0, 0))) (t1 : t ≠ 173) (t2 : t ≠ 9) (t3 : t ≠ 229) : ¬ DkS gd vl vc g := by
  obtain ⟨ops, hbd⟩ := H.blk
  obtain ⟨ss, a1, a2, a3⟩ := H.row
  obtain ⟨cs', b1, b2, b3⟩ := H.cache
  rintro (e | e | e)
  · rw [← e, hb] at hbd; injection hbd with e1; injection e1 with _ e2; exact t1 e2
  · exact rowE_ne a3 hb (fun e => t2 e.symm) e
  · exact rowE_ne b3 hb (fun e => t3 e.symm) e
set_option maxRecDepth 100000 in
set_option maxHeartbeats 8000000 in
theorem format_any (H : Dk B w gd N Z vl vc false n) (hB : B ≤ w.heap.size) (hn : n < 100000) (hd : 4 ≤ N ∧ N ≤ 4096 ∧ 16 ≤ Z ∧ Z ≤ 256) :
    Calls Tryz.prog 121 #[.pointer (some ⟨gd, 0, none⟩)] w fun e w' => ∃ gw, e = .returned (.tuple #[.pointer (some ⟨gw, 0, none⟩), .int .i64 0]) ∧ w.heap.size ≤ gw ∧ Wl B w' gw gd N Z vl (.slice none 0 0) (.slice none 0 0) false 0 0 0 [] ∧ Turn w w' (DkS gd vl vc) := by
  have hW : ∀ (q : Int), q = 0 ∨ q = 1 → ∀ (W : World) (v : Value) (k : Nat), Dk B W gd N Z vl v false k → k < 1000000 → B ≤ W.heap.size → Calls Tryz.prog 133 #[.pointer (some ⟨gd, 0, none⟩), .int .i64 q, .string ⟨(Lib.repeatL [0] Z).toArray⟩] W fun e w' => ∃ vc', e = .returned (.int .i64 0) ∧ Dk B w' gd N Z vl vc' false (k + 1) ∧ Turn W w' (DkS gd vl v) ∧ Grow W v vc' := fun q hq W v k h h1 h2 => by
    rcases hq with rfl | rfl
    · exact write_any h h1 h2 0 (by omega) _ (zeros_size Z)
    · exact write_any h h1 h2 1 (by omega) _ (zeros_size Z)
  go_enter Tryz.func121, Tryz.ntmps121
  go_wp2_with (go_at_call 132; (with_reducible refine (size_any (H.ofBelow (below_alloc (Below.refl _ _) _))).mono ?_); rintro e w1 ⟨rfl, rfl⟩)
  (go_at_call 120; refine (Tryz.strings_Repeat _ Z _ (by omega) (by show 1 * Z ≤ _; omega)).mono ?_; rintro e wq ⟨rfl, hq⟩)
  have hqs := hq.size
  have bq : Below w.heap.size w wq := (below_alloc (Below.refl _ _) _).trans (hq.mono (by rw [size_alloc]; omega))
  have hgw : wq.heap[w.heap.size]? = some (.cells (walCells gd) 183 (0, 0)) := (hq.block w.heap.size (by rw [size_alloc]; omega)).trans (heap_alloc_new w _)
  have hgl : w.heap.size < wq.heap.size := (Array.getElem?_eq_some_iff.1 hgw).1
  clear hq hqs
  go_wp2_with (fail)
  have bq2 : Below w.heap.size w (wq.alloc (.cells #[.int .i64 1, .int .i64 0] 3)) := below_alloc bq _
  have h1 : (wq.alloc (.cells #[.int .i64 1, .int .i64 0] 3)).heap[w.heap.size]? = some (.cells (walCells gd) 183 (0, 0)) := (Below.heap_alloc wq _ _ hgl).trans hgw
  have h2 : (wq.alloc (.cells #[.int .i64 1, .int .i64 0] 3)).heap[wq.heap.size]? = some (.cells #[.int .i64 1, .int .i64 0] 3 (0, 0)) := heap_alloc_new wq _
  obtain ⟨gs, hgs⟩ : ∃ gs, gs = wq.heap.size := ⟨_, rfl⟩
  rw [← hgs] at h2 ⊢
  clear hgs
  go_loopw [18] (fun i wr => RFm B w gd N Z vl vc n w.heap.size gs i wr) (fun i _ => 2 - (intOf i).toNat)
  case atStart => exact ⟨0, vc, n, by omega, rfl, H.ofBelow bq2, by omega, Turn.of_below bq2 _, Grow.refl _ _, h1, h2⟩
  case round =>
    clear h1 h2 bq2 bq hgw
    obtain ⟨k, vc', n', hk, rfl, hD, hn', hT, hG, h1, h2⟩ := hrel
    have k0 : (0 : Int) ≤ (k : Int) := by omega
    have y0 : wr.cell? ⟨gs, 0, none⟩ = some (.int .i64 1) := blk_cell h2 0
    have y1 : wr.cell? ⟨gs, 1, none⟩ = some (.int .i64 0) := blk_cell h2 1
    have hsT := hT.size
    by_cases hlt : k < 2
    · have hx : k = 0 ∨ k = 1 := by omega
      have step : ∀ (w5 : World) (vc5 : Value), Dk B w5 gd N Z vl vc5 false (n' + 1) → Turn wr w5 (DkS gd vl vc') → Grow wr vc' vc5 → RFm B w gd N Z vl vc n w.heap.size gs (.int .i64 ((k + 1 : Nat) : Int)) w5 := fun w5 vc5 hD5 hT5 hG5 =>
        ⟨k + 1, vc5, n' + 1, by omega, rfl, hD5, by omega, hT.then_ hT5 (fun k hk => by
          rcases hk with e | e | e
          · exact .inl (.inl e)
          · exact .inl (.inr (.inl e))
          · rcases hG k e with h9 | h9
            · exact .inl (.inr (.inr h9))
            · exact .inr h9), hG.then_ hG5 hT.size, (hT5.block (Array.getElem?_eq_some_iff.1 h1).1 (hD.out h1 (by decide) (by decide) (by decide))).trans h1, (hT5.block (Array.getElem?_eq_some_iff.1 h2).1 (hD.out h2 (by decide) (by decide) (by decide))).trans h2⟩
      have hDn : n' < 1000000 := by omega
      have hBn : B ≤ wr.heap.size := by omega
      clear hT hG h1 h2
      rcases hx with rfl | rfl
      · go_wp2_with (go_at_call 133; (with_reducible refine (hW 1 (.inr rfl) _ _ _ hD hDn hBn).mono ?_); rintro e w5 ⟨vc5, rfl, hD5, hT5, hG5⟩)
        go_roundw
        case rel => exact step _ _ hD5 hT5 hG5
        case measure => simp [intOf]
      · go_wp2_with (go_at_call 133; (with_reducible refine (hW 0 (.inl rfl) _ _ _ hD hDn hBn).mono ?_); rintro e w5 ⟨vc5, rfl, hD5, hT5, hG5⟩)
        go_roundw
        case rel => exact step _ _ hD5 hT5 hG5
        case measure => simp [intOf]
    · obtain rfl : k = 2 := by omega
      go_wp2_with (go_at_call 134; (with_reducible refine (flush_any hD (by omega) (by omega)).mono ?_); rintro e w2 ⟨rfl, hD2, hT2⟩)
      go_ret2
      have hgw2 := (hT2.block (Array.getElem?_eq_some_iff.1 h1).1 (hD.out h1 (by decide) (by decide) (by decide))).trans h1
      refine ⟨w.heap.size, rfl, Nat.le_refl _, ⟨hD2, hgw2, hB, ⟨rfl, .inl ⟨rfl, rfl⟩⟩, fun k hk => by simp [Value.ownBlock] at hk, hd, Nat.zero_le _⟩, hT.then_ hT2 (fun k hk => ?_)⟩
      rcases hk with e | e | e
      · exact .inl (.inl e)
      · exact .inl (.inr (.inl e))
      · rcases hG k e with h9 | h9
        · exact .inl (.inr (.inr h9))
        · exact .inr h9
end
end Go.Proofs.YtpniccllpfonfaaGreatDoor.St
