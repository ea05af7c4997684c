/- The spool: Keys (the program's): its keys that begin so, sorted. -/
import Derived.Test.YtbifmgenljjleaaSpI
import Derived.Test.YtbifmgenljjleaaShelf
import Derived.Sort.OwnSorted
import Derived.Deep.DeepMust
namespace Go.Proofs.Ytbifmgenljjleaa.Sp
open Go Go.RowKit Go.Maps Go.WideMaps Go.Sort Go.Proofs.YtbifmgenljjleaaW.PrintWords

def sorted (ss : List (List UInt8)) : List (List UInt8) := ss.mergeSort fun x y => decide (x ≤ y)
def kf (l : List E) (p : List UInt8) : List (List UInt8) := (l.filter (fun e => Lib.hasPrefix e.k p)).map E.k
theorem enc_k (e : E) : encStr e.k = .string e.key := by cases e with | mk k _ _ _ => cases k with | mk d => rfl
theorem kf_snoc (l : List E) (e : E) (p : List UInt8) : kf (l ++ [e]) p = kf l p ++ if Lib.hasPrefix e.k p then [e.k] else [] := by
  unfold kf
  rw [List.filter_append, List.map_append]
  cases h : Lib.hasPrefix e.k p <;> simp [h]
theorem kf_len (l : List E) (p : List UInt8) : (kf l p).length ≤ l.length := by
  unfold kf
  rw [List.length_map]
  exact List.length_filter_le _ _
theorem sort_own {B : Nat} {w : World} {v : Value} {ss : List (List UInt8)} (h : w.ownsRow B 9 1 v ss.length (ss.map encStr)) (hl : ss.length < 1000000) :
    Calls Try.prog 22 #[v] w fun e w' => e = .returned (.tuple #[]) ∧ w'.ownsRow B 9 1 v ss.length ((sorted ss).map encStr) ∧ w.grownBy w' v.ownBlock := by
  rcases h.2 with ⟨h1, h2⟩ | ⟨g, cap, cur, rfl, hbase, hb, h1, h2, h3, h4⟩
  · subst h1
    have h0 : ss = [] := List.eq_nil_of_length_eq_zero h2
    subst h0
    refine (Try.slices_Sort_string_none none 0 w).mono fun e w' he => ?_
    obtain ⟨he, rfl⟩ := he
    exact ⟨he, by simpa [sorted] using h, World.grownBy.refl _ _⟩
  · refine (Try.slices_Sort_string g 0 cap ss w (holds_of_block hb (by simpa using h4)) (Array.getElem?_eq_some_iff.1 hb).1 (by omega)).mono fun e w' he => ?_
    obtain ⟨he, n, os, rfl⟩ := he
    have hln : (sorted ss).length = ss.length := by simp [sorted]
    exact ⟨he, ownsRow_sorted hln hbase hb h1 h2 h3, grownBy_sorted _⟩
theorem two_new (w : World) (o o' : Obj) : ((w.alloc o).alloc o').heap[w.heap.size + 1]? = some o' := by
  have := heap_alloc_new (w.alloc o) o'
  rwa [show (w.alloc o).heap.size = w.heap.size + 1 by simp] at this
theorem info9 : (Try.prog.info? 9).map (fun i => (i.zero, i.size, i.bytes)) = some (some (.string ⟨#[]⟩), 1, 16) := by kernel_rfl
def RK (W : World) (l : List E) (p : List UInt8) (v i : Value) (wr : World) : Prop :=
  ∃ k : Nat, k ≤ l.length ∧ i = .int .i64 k ∧ wr.ownsRow W.heap.size 9 1 v (kf (l.take k) p).length ((kf (l.take k) p).map encStr) ∧ Below W.heap.size W wr
set_option maxRecDepth 100000 in
set_option maxHeartbeats 4000000 in
theorem keys_any {B : Nat} {w : World} {g bm : Nat} {v : Value} {l : List E} {r : Bool} (h : St B w g bm v l r) (hl : l.length < 1000000) (p : ByteArray) :
    Calls Try.prog 18 #[.pointer (some ⟨g, 0, none⟩), .string p] w fun x w' => ∃ v', x = .returned v' ∧ Below w.heap.size w w' ∧ w'.ownsRow w.heap.size 9 1 v' (kf l p.data.toList).length ((sorted (kf l p.data.toList)).map encStr) := by
  obtain ⟨a, c, rfl, _⟩ := slice_of h.row
  have c0 : w.cell? ⟨g, 0, none⟩ = some (.slice a l.length c) := by simp [World.cell?, h.blk]
  obtain ⟨i0, hi0, hz0, hz1, hz2⟩ := info_parts info9
  go_enter Try.func18, Try.ntmps18
  go_wp2_with (fail)
  go_loopw [5, 13] (fun v i wr => RK w l p.data.toList v i wr) (fun _ i _ => l.length - (intOf i).toNat)
  case atStart => exact ⟨0, Nat.zero_le _, rfl, ⟨rfl, .inl ⟨rfl, rfl⟩⟩, Below.refl _ _⟩
  case round =>
    obtain ⟨k, hk, rfl, hown, hB⟩ := hrel
    by_cases hlt : k < l.length
    · obtain ⟨gs, rfl, cj⟩ := row_at h.row (by omega)
      have cz : ∀ j u, (l[k].cells)[j]? = some u → j < 4 → wr.cell? ⟨gs, k * 4 + j, none⟩ = some u := fun j u hu hj => by
        have hc := cj k hlt j u hu hj
        exact (hB.cell (p := ⟨gs, k * 4 + j, none⟩) (World.block_lt_of_cell? w _ hc)).trans hc
      have x0 : wr.cell? ⟨gs, k * 4, none⟩ = some (.string l[k].key) := cz 0 _ rfl (by decide)
      have x1 : wr.cell? ⟨gs, k * 4 + 1, none⟩ = some (.string l[k].fr) := cz 1 _ rfl (by decide)
      have x2 : wr.cell? ⟨gs, k * 4 + 2, none⟩ = some (.string l[k].dest) := cz 2 _ rfl (by decide)
      have x3 : wr.cell? ⟨gs, k * 4 + 3, none⟩ = some (.string l[k].text) := cz 3 _ rfl (by decide)
      clear cz cj
      have ik0 : (0 : Int) ≤ (k : Int) := by omega
      have ik1 : (k : Int) < (l.length : Int) := by omega
      have hkl := kf_len (l.take k) p.data.toList
      have htl : (l.take k).length ≤ k := List.length_take_le _ _
      have sn := kf_snoc (l.take k) l[k] p.data.toList
      rw [← take_snoc l k hlt] at sn
      have SN := Lib.hid sn
      clear sn
      have EK := Lib.hid (enc_k l[k])
      have bA : ∀ o, Below w.heap.size w (wr.alloc o) := fun o => hB.alloc hB.size o
      cases hp : Lib.hasPrefix l[k].key.data.toList p.data.toList with
      | true =>
        have HP := Lib.hid hp
        clear hp
        go_wp2_with (first
          | (go_at_call 21; (with_reducible refine (Try.strings_HasPrefix _ _ _).mono ?_); rintro e w' ⟨rfl, rfl⟩; have hp := HP.out)
          | (at_builtin; clear hp; go_must (refine wpList_append_own_at _ rfl _ _ _ rfl w.heap.size 9 i0 _ 1 16 Try.underlying51 hi0 hz0 hz1 hz2 rfl (by omega) _ _ _ rfl ((hown.alloc _).alloc _) ⟨wr.heap.size + 1, 0, none⟩ 1 1 [.string l[k].key] rfl rfl (World.news_of_block (cs := #[.string l[k].key]) (t := 9) (fr := (0, 0)) (two_new _ _ _)) (by simp [Value.oneCell']) (by unfold maxLen; omega) (by omega) (by have := hB.size; simp; omega) ?_); intro v1 w1 hown1 hgrow _ _))
        refine ⟨⟨k + 1, by omega, by go_num, ?_, ?_⟩, by simp [intOf]; omega⟩
        · have s2 := SN.out
          rw [show Lib.hasPrefix l[k].k p.data.toList = true from HP.out] at s2
          rw [s2]
          simp only [if_true]
          rw [List.length_append, List.map_append, List.map_singleton, EK.out]
          exact hown1
        · have b2 := (bA (Obj.cells #[.string l[k].key, .string l[k].fr, .string l[k].dest, .string l[k].text] 34)).alloc (by have := hB.size; simp; omega) (Obj.cells #[.string l[k].key] 9)
          exact b2.grown hgrow (by have := hB.size; simp; omega) (fun b hb => (hown.lt b hb).1)
      | false =>
        go_wp2_with (go_at_call 21; (with_reducible refine (Try.strings_HasPrefix _ _ _).mono ?_); rintro e w' ⟨rfl, rfl⟩)
        go_roundw
        case rel =>
          refine ⟨k + 1, by omega, by go_num, ?_, bA _⟩
          have s2 := SN.out
          rw [show Lib.hasPrefix l[k].k p.data.toList = false from hp] at s2
          rw [s2]
          simpa using hown.alloc _
        case measure => simp [intOf]; omega
    · obtain rfl : k = l.length := by omega
      rw [List.take_length] at hown
      go_wp2_with (go_at_call 22; (with_reducible refine (sort_own hown (by have := kf_len l p.data.toList; omega)).mono ?_); rintro e w' ⟨rfl, hs, hg⟩)
      go_ret
      have hsl : (sorted (kf l p.data.toList)).length = (kf l p.data.toList).length := by simp [sorted]
      exact ⟨_, rfl, hB.grown hg hB.size (fun b hb => (hown.lt b hb).1), hs⟩
end Go.Proofs.Ytbifmgenljjleaa.Sp
