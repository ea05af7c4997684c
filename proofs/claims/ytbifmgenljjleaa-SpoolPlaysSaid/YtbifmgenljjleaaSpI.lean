/- The spool's law SpoolStays: its walk. -/
import Derived.Test.YtbifmgenljjleaaSpH
import Derived.Test.YtbifmgenljjleaaWEqStruct
import Derived.LoopTactic
import Derived.Deep.QuietTactic
import Derived.BigQuiet
import Derived.Outline
import Derived.Lib.Hide
namespace Go.Proofs.Ytbifmgenljjleaa.Sp
open Go Go.RowKit Go.Maps Go.WideMaps Go.Proofs.YtbifmgenljjleaaW.PrintWords

/-- A row of calls, as it came in. -/
def Acts (w : World) (b off : Nat) (l : List A) : Prop := ∀ i (hi : i < l.length) j u, (l[i].cells)[j]? = some u → w.cell? ⟨b, off + i * 6 + j, none⟩ = some u
def ArgActs (w : World) (a : Option Addr) (l : List A) : Prop := 0 < l.length → ∃ b off, a = some ⟨b, off, none⟩ ∧ b < w.heap.size ∧ Acts w b off l
def Keyd (l : List A) : Prop := ∀ a ∈ l, a.e.key.size ≤ maxLen
def R1 (B : Nat) (w : World) (g bm : Nat) (l : List A) (i : Value) (wr : World) : Prop :=
  ∃ (k : Nat) (v : Value), k ≤ l.length ∧ k ≤ 40 ∧ i = .int .i64 k ∧ St B wr g bm v (plays (l.take k) ([], false)).1 (plays (l.take k) ([], false)).2 ∧ Below B w wr
theorem plays_uniq (l : List A) {s : List E × Bool} (h : Uniq s.1) : Uniq (plays l s).1 := by
  induction l using snoc_ind with
  | nil => exact h
  | snoc l a ih => rw [plays_snoc]; exact A.list_uniq ih _ a
theorem plays_len (l : List A) (s : List E × Bool) : (plays l s).1.length ≤ s.1.length + l.length := by
  induction l using snoc_ind with
  | nil => exact Nat.le_refl _
  | snoc l a ih =>
    rw [plays_snoc]
    obtain ⟨x, hx, hl⟩ := A.list_more (plays l s).1 (plays l s).2 a
    show (a.list _ _).length ≤ _
    rw [hx, List.length_append, List.length_append, List.length_singleton]
    omega
theorem plays_more (l : List A) (s : List E × Bool) : ∃ x, (plays l s).1 = s.1 ++ x := by
  induction l using snoc_ind with
  | nil => exact ⟨[], by simp [plays]⟩
  | snoc l a ih =>
    rw [plays_snoc]
    obtain ⟨x, hx⟩ := ih
    obtain ⟨y, hy, _⟩ := A.list_more (plays l s).1 (plays l s).2 a
    exact ⟨x ++ y, by show a.list _ _ = _; rw [hy, hx, List.append_assoc]⟩
theorem take_snoc {α : Type} (l : List α) (k : Nat) (h : k < l.length) : l.take (k + 1) = l.take k ++ [l[k]] := by
  rw [List.take_succ_eq_append_getElem h]
theorem row_base {w : World} {B C n : Nat} {v : Value} {xs : List Value} (h : w.ownsRow C 34 4 v n xs) (hB : B ≤ C) : w.ownsRow B 34 4 v n xs := by
  refine ⟨h.1, ?_⟩
  rcases h.2 with h2 | ⟨g, cap, cur, h2, h3, h4⟩
  · exact .inl h2
  · exact .inr ⟨g, cap, cur, h2, Nat.le_trans hB h3, h4⟩
/-- A row beside a spool. -/
def Beside (vw : Value) (g bm : Nat) (v : Value) : Prop := ∀ b, vw.ownBlock = some b → b ≠ g ∧ b ≠ bm ∧ v.ownBlock ≠ some b
def R2 (B : Nat) (w : World) (g bm : Nat) (s0 : List E × Bool) (vw : Value) (m : List A) (i : Value) (wr : World) : Prop :=
  ∃ (k : Nat) (v : Value), k ≤ m.length ∧ k ≤ 40 ∧ i = .int .i64 k ∧ St B wr g bm v (plays (m.take k) s0).1 (plays (m.take k) s0).2 ∧ Below B w wr ∧ wr.ownsRow B 34 4 vw s0.1.length (flat s0.1) ∧ Beside vw g bm v
theorem find_ex {B : Nat} {w : World} {g bm : Nat} {v : Value} {l : List E} {r : Bool} (h : St B w g bm v l r) (hu : Uniq l) (key : ByteArray) (hk : key.size ≤ maxLen) :
    Calls Try.prog 9 #[.pointer (some ⟨g, 0, none⟩), .string key] w fun e w' => ∃ (z0 z1 z2 z3 : ByteArray) (ok : Bool), e = .returned (.tuple #[.agg #[.string z0, .string z1, .string z2, .string z3], .bool ok]) ∧ Below w.heap.size w w' ∧ z0 = (findL l key.data.toList).key ∧ ok = isL l key.data.toList :=
  (find_any h hu key hk).mono fun _ _ ⟨h1, h2⟩ => ⟨_, _, _, _, _, h1, h2, rfl, rfl⟩
/-- What a round of the second loop leaves. -/
theorem round2 {B : Nat} {wr w3 w4 : World} {g bm : Nat} {v v3 vw : Value} {s0 : List E × Bool} {o o2 : Obj}
    (hR : wr.ownsRow B 34 4 vw s0.1.length (flat s0.1)) (hA : Beside vw g bm v)
    (hF : Foot (wr.alloc o) g bm v w3 v3) (hb4 : Below w3.heap.size w3 w4) :
    (w4.alloc o2).ownsRow B 34 4 vw s0.1.length (flat s0.1) ∧ Beside vw g bm v3 := by
  have sz : (wr.alloc o).heap.size = wr.heap.size + 1 := by simp
  refine ⟨row_of hR fun b hb => ?_, fun b hb => ⟨(hA b hb).1, (hA b hb).2.1, fun e => ?_⟩⟩
  · have hlt := (hR.lt b hb).2
    have h1 := hF.1.1
    have h2 := hb4.size
    rw [Below.heap_alloc w4 o2 b (by omega), hb4.block b (by omega), hF.1.2 b (by omega) (by
      rintro (e | e | e)
      · exact (hA b hb).1 e
      · exact (hA b hb).2.1 e
      · exact (hA b hb).2.2 e)]
    exact Below.heap_alloc wr o b hlt
  · have hlt := (hR.lt b hb).2
    rcases hF.2 b e with h | h
    · exact (hA b hb).2.2 h
    · omega
theorem key_of_k {a b : ByteArray} (h : a.data.toList = b.data.toList) : a = b := by
  cases a with
  | mk x => cases b with
    | mk y => congr 1; exact Array.toList_inj.1 h
def eqS (a b : ByteArray) : Bool := a.toList == b.toList
theorem eqS_self (a : ByteArray) : eqS a a = true := by simp [eqS]
theorem eqS_ne {a b : ByteArray} (h : a ≠ b) : (a.toList == b.toList) = false := by
  rw [Lib.toList_data, Lib.toList_data]
  cases h1 : (a.data.toList == b.data.toList) with
  | false => rfl
  | true => exact absurd (key_of_k (by simpa using h1)) h
theorem eqA34 (d : Nat) (w : World) (x0 y0 x1 y1 x2 y2 x3 y3 : ByteArray) :
    (Op.equalIn (d + 2) 34 (.agg #[.string x0, .string x1, .string x2, .string x3]) (.agg #[.string y0, .string y1, .string y2, .string y3])).run Try.prog w = .ok (x0.toList == y0.toList && (x1.toList == y1.toList && (x2.toList == y2.toList && (x3.toList == y3.toList)))) w := by
  refine eqA_of Try.underlying34 (by kernel_rfl) ?_
  refine eqf_cons (by rfl) (by go_simp; rfl) (by go_simp; rfl) (by go_simp) ?_
  refine eqf_cons (by rfl) (by go_simp; rfl) (by go_simp; rfl) (by go_simp) ?_
  refine eqf_cons (by rfl) (by go_simp; rfl) (by go_simp; rfl) (by go_simp) ?_
  exact eqf_last (by rfl) (by go_simp; rfl) (by go_simp; rfl) (by go_simp)
/-- A mail is not other than itself. -/
theorem neq_self (w : World) (a b c d : ByteArray) : (binOp .neq 34 (.agg #[.string a, .string b, .string c, .string d]) (.agg #[.string a, .string b, .string c, .string d])).run Try.prog w = .ok (.bool false) w := by
  rw [run_neq_struct, eqA34 9998]
  simp [Result.andThen]
theorem row_at {w : World} {B c : Nat} {a : Option Addr} {l : List E} (h : w.ownsRow B 34 4 (.slice a l.length c) l.length (flat l)) (hl : 0 < l.length) :
    ∃ g, a = some ⟨g, 0, none⟩ ∧ ∀ i (hi : i < l.length) j u, (l[i].cells)[j]? = some u → j < 4 → w.cell? ⟨g, i * 4 + j, none⟩ = some u := by
  rcases h.2 with ⟨h1, h2⟩ | ⟨g', cap, cur, h1, _⟩
  · injection h1 with _ e2 _
    omega
  · injection h1 with e1
    subst e1
    refine ⟨g', rfl, fun i hi j u hu hj => ?_⟩
    rw [h.cellAt (i * 4 + j) (by omega), flat_get l i j hi hj, hu]
theorem drewN_two (w : World) (a b : Nat) : (w.drewN a).drewN b = w.drewN (a + b) := by simp [World.drewN, Nat.add_assoc]
/-- While a row is written over: its block's form alone. -/
def R5 (B : Nat) (w w0 : World) (ai : Option Addr) (n : Nat) (i : Value) (wr : World) : Prop :=
  ∃ k : Nat, k ≤ n ∧ i = .int .i64 k ∧ Below B w wr ∧ Kept w0 wr (fun b => ∃ a, ai = some a ∧ a.block = b) ∧ ∀ a, ai = some a → ∃ cs : Array Value, B ≤ a.block ∧ a = ⟨a.block, 0, none⟩ ∧ wr.heap[a.block]? = some (.cells cs 34 (0, 0)) ∧ n * 4 ≤ cs.size
theorem r5_start {B : Nat} {w w0 : World} {ai : Option Addr} {n c : Nat} {xs : List Value} (hB : Below B w w0) (h : w0.ownsRow B 34 4 (.slice ai n c) n xs) : R5 B w w0 ai n (.int .i64 ((0 : Nat) : Int)) w0 := by
  refine ⟨0, Nat.zero_le _, rfl, hB, Kept.refl _ _, fun a ha => ?_⟩
  rcases h.2 with ⟨h1, _⟩ | ⟨g, cap, cur, h1, h2, h3, h4, h5, h6, h7⟩
  · injection h1 with e1
    rw [ha] at e1
    cases e1
  · injection h1 with e1 _ e3
    rw [ha] at e1
    injection e1 with e1
    subst e1
    exact ⟨cur, h2, rfl, h3, by rw [h6]; omega⟩
theorem r5_step {B : Nat} {w w0 wr : World} {g n k : Nat} {cs : Array Value} (hk : k < n) (hB : Below B w wr) (hK : Kept w0 wr (fun b => ∃ a, (some ⟨g, 0, none⟩ : Option Addr) = some a ∧ a.block = b)) (hg : B ≤ g) (hb : wr.heap[g]? = some (.cells cs 34 (0, 0))) (hs : n * 4 ≤ cs.size) (o0 o1 o2 o3 : Nat) (v0 v1 v2 v3 : Value) :
    R5 B w w0 (some ⟨g, 0, none⟩) n (.int .i64 ((k + 1 : Nat) : Int)) ((((wr.setCell ⟨g, o0, none⟩ v0).setCell ⟨g, o1, none⟩ v1).setCell ⟨g, o2, none⟩ v2).setCell ⟨g, o3, none⟩ v3) := by
  have b1 := blk_set hb o0 v0
  have b2 := blk_set b1 o1 v1
  have b3 := blk_set b2 o2 v2
  have b4 := blk_set b3 o3 v3
  have hS : (∃ a : Addr, (some ⟨g, 0, none⟩ : Option Addr) = some a ∧ a.block = g) := ⟨_, rfl, rfl⟩
  refine ⟨k + 1, by omega, rfl, (((hB.setCell hg _).setCell hg _).setCell hg _).setCell hg _, (((hK.setCell (.inl hS) _).setCell (.inl hS) _).setCell (.inl hS) _).setCell (.inl hS) _, fun a ha => ?_⟩
  injection ha with e1
  subst e1
  exact ⟨_, hg, rfl, b4, by simpa using hs⟩
set_option maxRecDepth 100000 in
set_option maxHeartbeats 4000000 in
theorem stays_walk {w : World} (Al Am : Option Addr) (cl cM : Nat) (l m : List A) (hl : ArgActs w Al l) (hm : ArgActs w Am m) (kl : Keyd l) (km : Keyd m) (nl : l.length ≤ 9223372036854775807) (nm : m.length ≤ 9223372036854775807) :
    Calls Try.prog 3 #[.slice Al l.length cl, .slice Am m.length cM] w fun e w' => e = .returned (.bool true) ∧ Below w.heap.size w w' := by
  go_enter Try.func3, Try.ntmps3
  go_wp2_with (fail)
  (go_at_call 5; (with_reducible refine (works_any).mono ?_); rintro e w1 ⟨rfl, hb1⟩)
  go_wp2_with (fail)
  (go_at_call 6; (with_reducible refine (new_any w.heap.size w w1 hb1 hb1.size).mono ?_); rintro e w2 ⟨g, bm, rfl, hS2, hb2, -, -, -⟩)
  go_wp2_with (fail)
  go_loopw [6] (fun i wr => R1 w.heap.size w g bm l i wr) (fun i _ => l.length - (intOf i).toNat)
  case atStart => exact ⟨0, _, Nat.zero_le _, by omega, rfl, hS2, hb2⟩
  case round =>
    obtain ⟨k, v, hk, hk40, rfl, hS, hB⟩ := hrel
    have hU : Uniq (plays (l.take k) ([], false)).1 := plays_uniq _ (by simp [Uniq])
    have hL : (plays (l.take k) ([], false)).1.length ≤ 40 := by have := plays_len (l.take k) ([], false); simp at this; omega
    by_cases hlt : k < l.length ∧ k < 40
    · obtain ⟨h1, h2⟩ := hlt
      obtain ⟨bl, ol, rfl, hbl, hl⟩ := hl (by omega)
      have cj : ∀ j u, (l[k].cells)[j]? = some u → wr.cell? ⟨bl, ol + k * 6 + j, none⟩ = some u := fun j u hu => (hB.cell (p := ⟨bl, ol + k * 6 + j, none⟩) hbl).trans (hl k h1 j u hu)
      have x0 : wr.cell? ⟨bl, ol + k * 6, none⟩ = some (.int .i64 l[k].kind) := cj 0 _ rfl
      have x1 : wr.cell? ⟨bl, ol + k * 6 + 1, none⟩ = some (.string l[k].e.key) := cj 1 _ rfl
      have x2 : wr.cell? ⟨bl, ol + k * 6 + 2, none⟩ = some (.string l[k].e.fr) := cj 2 _ rfl
      have x3 : wr.cell? ⟨bl, ol + k * 6 + 3, none⟩ = some (.string l[k].e.dest) := cj 3 _ rfl
      have x4 : wr.cell? ⟨bl, ol + k * 6 + 4, none⟩ = some (.string l[k].e.text) := cj 4 _ rfl
      have x5 : wr.cell? ⟨bl, ol + k * 6 + 5, none⟩ = some (.bool l[k].is) := cj 5 _ rfl
      go_wp2_with (fail)
      (go_at_call 7; (refine (act_any hS hB hB.size l[k] (kl _ (List.getElem_mem h1)) (by omega)).mono ?_); rintro e w3 ⟨v3, rfl, hS3, hB3, -⟩)
      go_wp2_with (fail)
      go_roundw
      case rel =>
        refine ⟨k + 1, v3, by omega, by omega, by go_num, ?_, hB3⟩
        rw [take_snoc l k h1, plays_snoc]
        exact hS3
      case measure => simp [intOf]; omega
    · go_wp2_with (fail)
      all_goals
        (go_at_call 8; (with_reducible refine (all_any (by omega) hS).mono ?_); rintro e w3 ⟨vw, rfl, hb3, hW⟩)
        obtain ⟨s0, hs0⟩ : ∃ s0, s0 = plays (l.take k) ([], false) := ⟨_, rfl⟩
        have hS3 := hS.ofBelow hb3
        rw [← hs0] at hS3 hU hL hW
        have hB3 := hB.trans (hb3.mono hB.size)
        have hlt3 := hS.lt
        have hbe : Beside vw g bm v := fun b hb => by
          have h1 := (hW.lt b hb).1
          exact ⟨by omega, by omega, fun e => by have := hlt3.2.2.1 b e; omega⟩
        have hW3 := row_base hW hB.size
        clear hS hb3 hW hlt3 hB hs0 hk hk40 hl
        go_wp2_with (fail)
        obtain ⟨aw, cw, rfl, _⟩ := slice_of hW3
        go_loopw [8] (fun i wr => R2 w.heap.size w g bm s0 (.slice aw s0.1.length cw) m i wr) (fun i _ => m.length - (intOf i).toNat)
        case atStart => exact ⟨0, v, Nat.zero_le _, by omega, rfl, hS3, hB3, hW3, hbe⟩
        case round =>
          clear hS3 hB3 hW3 hbe hb1 hb2 hS2 hlt
          obtain ⟨k, v, hk, hk40, rfl, hS, hB, hW, hA⟩ := hrel
          have hU2 : Uniq (plays (m.take k) s0).1 := plays_uniq _ hU
          have hL2 : (plays (m.take k) s0).1.length ≤ 80 := by have := plays_len (m.take k) s0; simp at this; omega
          by_cases hlt : k < m.length ∧ k < 40
          · obtain ⟨h1, h2⟩ := hlt
            obtain ⟨bM, oM, rfl, hbM, hm⟩ := hm (by omega)
            have cj : ∀ j u, (m[k].cells)[j]? = some u → wr.cell? ⟨bM, oM + k * 6 + j, none⟩ = some u := fun j u hu => (hB.cell (p := ⟨bM, oM + k * 6 + j, none⟩) hbM).trans (hm k h1 j u hu)
            have x0 : wr.cell? ⟨bM, oM + k * 6, none⟩ = some (.int .i64 m[k].kind) := cj 0 _ rfl
            have x1 : wr.cell? ⟨bM, oM + k * 6 + 1, none⟩ = some (.string m[k].e.key) := cj 1 _ rfl
            have x2 : wr.cell? ⟨bM, oM + k * 6 + 2, none⟩ = some (.string m[k].e.fr) := cj 2 _ rfl
            have x3 : wr.cell? ⟨bM, oM + k * 6 + 3, none⟩ = some (.string m[k].e.dest) := cj 3 _ rfl
            have x4 : wr.cell? ⟨bM, oM + k * 6 + 4, none⟩ = some (.string m[k].e.text) := cj 4 _ rfl
            have x5 : wr.cell? ⟨bM, oM + k * 6 + 5, none⟩ = some (.bool m[k].is) := cj 5 _ rfl
            have hkk := km _ (List.getElem_mem h1)
            clear hm km kl cj
            have bA : ∀ o, Below wr.heap.size wr (wr.alloc o) := fun o => (Below.refl _ _).alloc (Nat.le_refl _) o
            go_wp2_with (fail)
            (go_at_call 7; (refine (act_any (hS.ofBelow (bA _)) (hB.trans ((bA _).mono hB.size)) (Nat.le_trans hB.size (bA _).size) m[k] hkk (by omega)).mono ?_); rintro e w3 ⟨v3, he, hS3, hB3, hF3⟩; obtain ⟨cd, hcd⟩ : ∃ cd, cd = A.code (plays (m.take k) s0).1 (plays (m.take k) s0).2 m[k] := ⟨_, rfl⟩; rw [← hcd] at he; subst he; have HC := Lib.hid hcd; clear hcd)
            have sz3 := hF3.1.1
            have szr : ∀ o, (wr.alloc o).heap.size = wr.heap.size + 1 := fun o => by simp
            rw [szr] at sz3
            have b3 : w3.heap[wr.heap.size]? = some (.cells #[.int .i64 m[k].kind, .string m[k].e.key, .string m[k].e.fr, .string m[k].e.dest, .string m[k].e.text, .bool m[k].is] 31 (0, 0)) := by
              rw [hF3.1.2 wr.heap.size (by rw [szr]; omega) (by
                have := hS.lt
                rintro (e | e | e)
                · omega
                · omega
                · have := this.2.2.1 _ e; omega)]
              exact heap_alloc_new wr _
            have y0 : w3.cell? ⟨wr.heap.size, 0, none⟩ = some (.int .i64 m[k].kind) := (blk_cell b3 0).trans rfl
            have y1 : w3.cell? ⟨wr.heap.size, 1, none⟩ = some (.string m[k].e.key) := (blk_cell b3 1).trans rfl
            go_wp2_with (fail)
            (go_at_call 9; (with_reducible refine (find_ex hS3 (A.list_uniq hU2 _ _) m[k].e.key hkk).mono ?_); rintro e w4 ⟨z0, z1, z2, z3, ok, rfl, hB4, hz, hok⟩)
            have hcd := HC.out
            clear HC
            have hB5 := hB3.trans (hB4.mono hB3.size)
            have p0 : w4.cell? ⟨wr.heap.size, 0, none⟩ = some (.int .i64 m[k].kind) := (hB4.cell (p := ⟨wr.heap.size, 0, none⟩) (by show wr.heap.size < _; omega)).trans y0
            have p1 : w4.cell? ⟨wr.heap.size, 1, none⟩ = some (.string m[k].e.key) := (hB4.cell (p := ⟨wr.heap.size, 1, none⟩) (by show wr.heap.size < _; omega)).trans y1
            have sz4 := hB4.size
            have q0 : ∀ o, (w4.alloc o).cell? ⟨wr.heap.size, 0, none⟩ = some (.int .i64 m[k].kind) := fun o => (World.cell?_of_block (Below.heap_alloc w4 o wr.heap.size (by omega))).trans p0
            have q1 : ∀ o, (w4.alloc o).cell? ⟨wr.heap.size, 1, none⟩ = some (.string m[k].e.key) := fun o => (World.cell?_of_block (Below.heap_alloc w4 o wr.heap.size (by omega))).trans p1
            clear p0 p1
            have tail : ∀ o2, R2 w.heap.size w g bm s0 (.slice aw s0.1.length cw) m (.int .i64 ((k + 1 : Nat) : Int)) (w4.alloc o2) := fun o2 => by
              refine ⟨k + 1, v3, by omega, by omega, rfl, ?_, hB5.alloc hB5.size _, round2 hW hA hF3 hB4⟩
              rw [take_snoc m k h1, plays_snoc]
              exact (hS3.ofBelow hB4).ofBelow ((Below.refl _ _).alloc (Nat.le_refl _) o2)
            have hto : m[k].kind = 0 → cd = 0 → ok = true ∧ z0 = m[k].e.key := fun e0 e1 => by
              have := there_ok e0 (hcd.symm.trans e1)
              exact ⟨hok.trans this.1, hz.trans (key_of_k this.2)⟩
            clear hok hz hcd hS3 hF3 hB3 hB4 y0 y1 b3 x0 x1 x2 x3 x4 x5 hS hB hW hA hU2
            by_cases e0 : m[k].kind = 0
            · by_cases e1 : cd = 0
              · obtain ⟨rfl, rfl⟩ := hto e0 e1
                subst e1
                rw [e0] at q0
                clear e0 hto
                go_wp2_with (fail)
                go_roundw
                case rel => exact tail _
                case measure => simp [intOf]; omega
              · have n1 : (cd == 0) = false := by simpa using e1
                rw [e0] at q0
                clear e0 hto e1
                go_wp2_with (fail)
                go_roundw
                case rel => exact tail _
                case measure => simp [intOf]; omega
            · have n0 : (m[k].kind == 0) = false := by simpa using e0
              clear e0 hto
              go_wp2_with (fail)
              go_roundw
              case rel => exact tail _
              case measure => simp [intOf]; omega
          · go_wp2_with (fail)
            all_goals
              obtain ⟨s1, hs1⟩ : ∃ s1, s1 = (plays (m.take k) s0).1 := ⟨_, rfl⟩
              obtain ⟨r1, hr1⟩ : ∃ r1, r1 = (plays (m.take k) s0).2 := ⟨_, rfl⟩
              obtain ⟨xm, hxm⟩ := plays_more (m.take k) s0
              rw [← hs1] at hxm hL2 hU2 hS
              rw [← hr1] at hS
              clear hs1 hr1 hlt hk hk40 hm km kl
              (go_at_call 8; (with_reducible refine (all_any (by omega) hS).mono ?_); rintro e w3 ⟨vi, rfl, hb3, hI⟩)
              obtain ⟨ai, ci, rfl, _⟩ := slice_of hI
              have hle : s0.1.length ≤ s1.length := by rw [hxm, List.length_append]; omega
              have hlt3 := hS.lt
              have hS3 := hS.ofBelow hb3
              have hW3 : w3.ownsRow w.heap.size 34 4 (.slice aw s0.1.length cw) s0.1.length (flat s0.1) := row_of hW (fun b hb => hb3.block b (hW.lt b hb).2)
              have hB3 := hB.trans (hb3.mono hB.size)
              have hAI : Beside (.slice ai s1.length ci) g bm v := fun b hb => by
                have h1 := (hI.lt b hb).1
                exact ⟨by omega, by omega, fun e => by have := hlt3.2.2.1 b e; omega⟩
              have hWI : ∀ b, Value.ownBlock (.slice aw s0.1.length cw) = some b → Value.ownBlock (.slice ai s1.length ci) ≠ some b := fun b hb e => by
                have h1 := (hI.lt b e).1
                have h2 := (hW.lt b hb).2
                omega
              have hI3 := row_base hI hB.size
              have HX := Lib.hid hxm
              clear hxm hS hW hB hI hb3 hlt3
              go_wp2_with (fail)
              go_loopw [96] (fun i wr => ∃ k n : Nat, k ≤ s1.length ∧ i = .int .i64 k ∧ wr = w3.drewN n) (fun i _ => s1.length - (intOf i).toNat)
              case atStart => exact ⟨0, 0, Nat.zero_le _, rfl, rfl⟩
              case round =>
                obtain ⟨k, n, hk, rfl, rfl⟩ := hrel
                by_cases hlt : k < s1.length
                · obtain ⟨gi, rfl, ci⟩ := row_at hI3 (by omega)
                  have ci' : ∀ j u, (s1[k].cells)[j]? = some u → j < 4 → w3.cell? ⟨gi, k * 4 + j, none⟩ = some u := fun j u hu hj => ci k hlt j u hu hj
                  have y0 : w3.cell? ⟨gi, k * 4, none⟩ = some (.string s1[k].key) := ci' 0 _ rfl (by decide)
                  have y1 : w3.cell? ⟨gi, k * 4 + 1, none⟩ = some (.string s1[k].fr) := ci' 1 _ rfl (by decide)
                  have y2 : w3.cell? ⟨gi, k * 4 + 2, none⟩ = some (.string s1[k].dest) := ci' 2 _ rfl (by decide)
                  have y3 : w3.cell? ⟨gi, k * 4 + 3, none⟩ = some (.string s1[k].text) := ci' 3 _ rfl (by decide)
                  clear ci'
                  have ik0 : (0 : Int) ≤ (k : Int) := by omega
                  have ik1 : (k : Int) < (s1.length : Int) := by omega
                  by_cases hlt0 : k < s0.1.length
                  · obtain ⟨gw, rfl, cwc⟩ := row_at hW3 (by omega)
                    have e0 : s0.1[k] = s1[k] := by
                      have := HX.out
                      simp only [this]
                      rw [List.getElem_append_left hlt0]
                    have cw' : ∀ j u, (s1[k].cells)[j]? = some u → j < 4 → w3.cell? ⟨gw, k * 4 + j, none⟩ = some u := fun j u hu hj => cwc k hlt0 j u (by rw [e0]; exact hu) hj
                    have x0 : w3.cell? ⟨gw, k * 4, none⟩ = some (.string s1[k].key) := cw' 0 _ rfl (by decide)
                    have x1 : w3.cell? ⟨gw, k * 4 + 1, none⟩ = some (.string s1[k].fr) := cw' 1 _ rfl (by decide)
                    have x2 : w3.cell? ⟨gw, k * 4 + 2, none⟩ = some (.string s1[k].dest) := cw' 2 _ rfl (by decide)
                    have x3 : w3.cell? ⟨gw, k * 4 + 3, none⟩ = some (.string s1[k].text) := cw' 3 _ rfl (by decide)
                    clear cwc cw' e0
                    have hne := fun w' => neq_self w' s1[k].key s1[k].fr s1[k].dest s1[k].text
                    have ik2 : (k : Int) < (s0.1.length : Int) := by omega
                    have CI := Lib.hid ci
                    clear ci
                    go_wp2_with (fail)
                    go_quiet (fail)
                    have ci := CI.out
                    clear CI
                    try clear x0 x1 x2 x3 y1 y2 y3 hne ik2
                    try clear hlt0
                    go_wp2_with (fail)
                    go_loopw [115] (fun i wr => ∃ j n : Nat, j ≤ k ∧ i = .int .i64 j ∧ wr = w3.drewN n) (fun i _ => k - (intOf i).toNat)
                    case atStart => exact ⟨0, _, Nat.zero_le _, rfl, drewN_two _ _ _⟩
                    case round =>
                      obtain ⟨j, n2, hj, rfl, rfl⟩ := hrel
                      by_cases hjk : j < k
                      · have z0 : w3.cell? ⟨gi, j * 4, none⟩ = some (.string (s1[j]'(by omega)).key) := ci j (by omega) 0 _ rfl (by decide)
                        have ne : ((s1[j]'(by omega)).key.toList == s1[k].key.toList) = false := eqS_ne (uniq_ne hU2 hlt hjk)
                        have ij0 : (0 : Int) ≤ (j : Int) := by omega
                        have ij1 : (j : Int) < (s1.length : Int) := by omega
                        go_wp2_with (fail)
                        go_quiet (fail)
                        go_wp2_with (fail)
                        go_roundw
                        case rel => exact ⟨j + 1, _, by omega, by go_num, rfl⟩
                        case measure => simp [intOf]; omega
                      · go_wp2_with (fail)
                        go_roundw
                        case rel => exact ⟨k + 1, _, by omega, by go_num, rfl⟩
                        case measure => simp [intOf]; omega
                  · have CI := Lib.hid ci
                    clear ci
                    go_wp2_with (fail)
                    go_quiet (fail)
                    have ci := CI.out
                    clear CI
                    try clear x0 x1 x2 x3 y1 y2 y3 hne ik2
                    try clear hlt0
                    go_wp2_with (fail)
                    go_loopw [115] (fun i wr => ∃ j n : Nat, j ≤ k ∧ i = .int .i64 j ∧ wr = w3.drewN n) (fun i _ => k - (intOf i).toNat)
                    case atStart => exact ⟨0, _, Nat.zero_le _, rfl, drewN_two _ _ _⟩
                    case round =>
                      obtain ⟨j, n2, hj, rfl, rfl⟩ := hrel
                      by_cases hjk : j < k
                      · have z0 : w3.cell? ⟨gi, j * 4, none⟩ = some (.string (s1[j]'(by omega)).key) := ci j (by omega) 0 _ rfl (by decide)
                        have ne : ((s1[j]'(by omega)).key.toList == s1[k].key.toList) = false := eqS_ne (uniq_ne hU2 hlt hjk)
                        have ij0 : (0 : Int) ≤ (j : Int) := by omega
                        have ij1 : (j : Int) < (s1.length : Int) := by omega
                        go_wp2_with (fail)
                        go_quiet (fail)
                        go_wp2_with (fail)
                        go_roundw
                        case rel => exact ⟨j + 1, _, by omega, by go_num, rfl⟩
                        case measure => simp [intOf]; omega
                      · go_wp2_with (fail)
                        go_roundw
                        case rel => exact ⟨k + 1, _, by omega, by go_num, rfl⟩
                        case measure => simp [intOf]; omega
                · have e0 : k = s1.length := by omega
                  subst e0
                  clear hk hlt
                  go_wp2_with (fail)
                  go_loopw [135] (fun i wr => R5 w.heap.size w (w3.drewN n) ai s1.length i wr) (fun i _ => s1.length - (intOf i).toNat)
                  case atStart => exact r5_start (w0 := w3.drewN n) ⟨hB3.os, hB3.tape, hB3.output, hB3.size, hB3.block⟩ hI3
                  case round =>
                    obtain ⟨k, hk, rfl, hB4, hK4, hg4⟩ := hrel
                    by_cases hlt : k < s1.length
                    · obtain ⟨gi, rfl, -⟩ := row_at hI3 (by omega)
                      obtain ⟨cs, hgB, -, hb, hcs⟩ := hg4 _ rfl
                      replace hgB : w.heap.size ≤ gi := hgB
                      replace hb : wr.heap[gi]? = some (.cells cs 34 (0, 0)) := hb
                      have stp := r5_step hlt hB4 hK4 hgB hb hcs
                      have cx : ∀ j, j < 4 → wr.cell? ⟨gi, k * 4 + j, none⟩ = some (cs.getD (k * 4 + j) undef) := fun j hj => by
                        rw [blk_cell hb, Array.getD_eq_getD_getElem?, Array.getElem?_eq_getElem (by omega)]
                        rfl
                      have fz : ∀ j, wr.frozen? ⟨gi, j, none⟩ = false := blk_frozen hb
                      have c0 : wr.cell? ⟨gi, k * 4, none⟩ = some (cs.getD (k * 4) undef) := cx 0 (by decide)
                      have c1 := cx 1 (by decide)
                      have c2 := cx 2 (by decide)
                      have c3 := cx 3 (by decide)
                      have ik0 : (0 : Int) ≤ (k : Int) := by omega
                      have ik1 : (k : Int) < (s1.length : Int) := by omega
                      clear cx hb hcs hg4 hK4 hB4
                      go_wp2_with (fail)
                      go_roundw
                      case rel => exact stp _ _ _ _ _ _ _ _
                      case measure => simp [intOf]; omega
                    · have hS' : ∀ b, (∃ a : Addr, ai = some a ∧ a.block = b) → Value.ownBlock (.slice ai s1.length ci) = some b := by
                        rintro b ⟨a, rfl, rfl⟩
                        rfl
                      have hS4 : St w.heap.size wr g bm v s1 r1 := St.kept (w := w3.drewN n) ⟨hS3.blk, hS3.row, hS3.map, hS3.g0, hS3.bm0⟩ hK4 (fun h => (hAI _ (hS' _ h)).1 rfl) (fun h => (hAI _ (hS' _ h)).2.1 rfl) (fun b hb h => (hAI _ (hS' _ h)).2.2 hb)
                      have hW4 : wr.ownsRow w.heap.size 34 4 (.slice aw s0.1.length cw) s0.1.length (flat s0.1) := row_of hW3 (fun b hb => hK4.2 b (hW3.lt b hb).2 (fun h => hWI b hb (hS' _ h)))
                      clear hS' hS3 hW3 hK4 hg4 hI3 hWI hAI hA hB3
                      go_wp2_with (fail)
                      clear hk hlt
                      (go_at_call 8; (with_reducible refine (all_any (by omega) hS4).mono ?_); rintro e w6 ⟨vg, rfl, hb6, hG⟩)
                      obtain ⟨ag, cg, rfl, _⟩ := slice_of hG
                      have hS6 := hS4.ofBelow hb6
                      have hW6 : w6.ownsRow w.heap.size 34 4 (.slice aw s0.1.length cw) s0.1.length (flat s0.1) := row_of hW4 (fun b hb => hb6.block b (hW4.lt b hb).2)
                      have hB6 := hB4.trans (hb6.mono hB4.size)
                      clear hS4 hW4 hB4 hb6
                      go_wp2_with (fail)
                      (go_at_call 10; (with_reducible refine (len_any hS6).mono ?_); rintro e w7 ⟨rfl, rfl⟩)
                      go_wp2_with (fail)
                      go_loopw [157] (fun i wr => ∃ k n : Nat, k ≤ s0.1.length ∧ i = .int .i64 k ∧ wr = w7.drewN n) (fun i _ => s0.1.length - (intOf i).toNat)
                      case atStart => exact ⟨0, 0, Nat.zero_le _, rfl, rfl⟩
                      case round =>
                        obtain ⟨k, n6, hk, rfl, rfl⟩ := hrel
                        by_cases hlt : k < s0.1.length
                        · obtain ⟨gi, rfl, ci⟩ := row_at hG (by omega)
                          obtain ⟨gw, rfl, cwc⟩ := row_at hW6 (by omega)
                          have hlt1 : k < s1.length := by omega
                          have e0 : s0.1[k] = s1[k] := by
                            have := HX.out
                            simp only [this]
                            rw [List.getElem_append_left hlt]
                          have cw' : ∀ j u, (s1[k].cells)[j]? = some u → j < 4 → w7.cell? ⟨gw, k * 4 + j, none⟩ = some u := fun j u hu hj => cwc k hlt j u (by rw [e0]; exact hu) hj
                          have ci' : ∀ j u, (s1[k].cells)[j]? = some u → j < 4 → w7.cell? ⟨gi, k * 4 + j, none⟩ = some u := fun j u hu hj => ci k hlt1 j u hu hj
                          have x0 : w7.cell? ⟨gw, k * 4, none⟩ = some (.string s1[k].key) := cw' 0 _ rfl (by decide)
                          have x1 : w7.cell? ⟨gw, k * 4 + 1, none⟩ = some (.string s1[k].fr) := cw' 1 _ rfl (by decide)
                          have x2 : w7.cell? ⟨gw, k * 4 + 2, none⟩ = some (.string s1[k].dest) := cw' 2 _ rfl (by decide)
                          have x3 : w7.cell? ⟨gw, k * 4 + 3, none⟩ = some (.string s1[k].text) := cw' 3 _ rfl (by decide)
                          have y0 : w7.cell? ⟨gi, k * 4, none⟩ = some (.string s1[k].key) := ci' 0 _ rfl (by decide)
                          have y1 : w7.cell? ⟨gi, k * 4 + 1, none⟩ = some (.string s1[k].fr) := ci' 1 _ rfl (by decide)
                          have y2 : w7.cell? ⟨gi, k * 4 + 2, none⟩ = some (.string s1[k].dest) := ci' 2 _ rfl (by decide)
                          have y3 : w7.cell? ⟨gi, k * 4 + 3, none⟩ = some (.string s1[k].text) := ci' 3 _ rfl (by decide)
                          clear ci cwc cw' ci' e0
                          have hne := fun w' => neq_self w' s1[k].key s1[k].fr s1[k].dest s1[k].text
                          have ik0 : (0 : Int) ≤ (k : Int) := by omega
                          have ik1 : (k : Int) < (s1.length : Int) := by omega
                          have ik2 : (k : Int) < (s0.1.length : Int) := by omega
                          go_wp2_with (fail)
                          go_quiet (fail)
                          go_wp2_with (fail)
                          go_roundw
                          case rel => exact ⟨k + 1, _, by omega, by go_num, rfl⟩
                          case measure => simp [intOf]; omega
                        · go_wp2_with (fail)
                          go_ret
                          exact ⟨rfl, ⟨hB6.os, hB6.tape, hB6.output, hB6.size, hB6.block⟩⟩
end Go.Proofs.Ytbifmgenljjleaa.Sp
