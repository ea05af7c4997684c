/- CrcOne, the walk: a text of at most 1000 bytes is sealed, laid as bytes, one of them is turned, and Fits says no; a longer one asks the chapter's example alone. -/
import Derived.Test.YtmkmkknnlckibaaQ3
import Derived.WalkLawsBesides
import Derived.WalkSpells
namespace Go.Proofs.Ytmkmkknnlckibaa.One
open Go.RowKit Go.Proofs.Ytmkmkknnlckibaa.Q Go.Proofs.YtmkmkknnlckibaaW.PrintWords Go.Proofs.YtmkmkknnlckibaaW.PrintLast Go.Proofs.YtmkmkknnlckibaaW.PrintMore

theorem strOf_bytesOf (s : ByteArray) : strOfNums (bytesOf s) = s := by
  apply Go.WideShapes.bytes_inj
  rw [strOfNums_data, bytesOf, List.map_map]
  conv => rhs; rw [← List.map_id s.data.toList]
  apply List.map_congr_left
  intro u _
  simp
theorem getD_bytesOf (s : ByteArray) (j : Nat) (h : j < s.size) : (bytesOf s).getD j 0 = ((s.data.toList.getD j 0).toNat : Int) := by
  have hl : j < s.data.toList.length := by rw [data_length]; exact h
  rw [List.getD_eq_getElem?_getD, List.getD_eq_getElem?_getD, bytesOf, List.getElem?_map, List.getElem?_eq_getElem hl]
  rfl
theorem bw_cell (w : World) (e : TypeId) (z : ByteArray) (i : Nat) (h : i < z.size) : (Lib.bytesWorld w e z).cell? ⟨w.heap.size, 0 + i, none⟩ = some (.int .u8 ((bytesOf z).getD i 0)) := by
  rw [Nat.zero_add, Lib.bytesWorld_cell w e z i h, getD_bytesOf z i h]
theorem bw_frozen (w : World) (e : TypeId) (z : ByteArray) (i : Nat) (h : i < z.size) : (Lib.bytesWorld w e z).frozen? ⟨w.heap.size, i, none⟩ = false := by
  unfold World.frozen?
  simp only [Lib.bytesWorld_at_new]
  have hs : z.size ≤ (Lib.bytesCells w e z).size := by
    rw [Lib.bytesCells, Array.size_append, Array.size_map]
    exact Nat.le_add_right _ _
  have : ¬ (Lib.bytesCells w e z).size ≤ i := by omega
  simp [this]
theorem bw_below (w : World) (e : TypeId) (z : ByteArray) : Below w.heap.size w (Lib.bytesWorld w e z) :=
  ⟨rfl, rfl, rfl, by rw [Lib.bytesWorld_size]; omega, fun k hk => Lib.bytesWorld_at_old w e z k hk⟩

theorem set_cell (w : World) (b n : Nat) (xs : List Int) (j : Nat) (v : Int) (hl : xs.length = n) (hj : j < n) (hc : ∀ i, i < n → w.cell? ⟨b, 0 + i, none⟩ = some (.int .u8 (xs.getD i 0))) (i : Nat) (hi : i < n) :
    (w.setCell ⟨b, j, none⟩ (.int .u8 v)).cell? ⟨b, 0 + i, none⟩ = some (.int .u8 ((xs.set j v).getD i 0)) := by
  by_cases h : i = j
  · subst h
    have h0 := hc i hi
    rw [Nat.zero_add] at h0
    rw [Nat.zero_add, World.cell?_setCell_same _ _ _ h0, List.getD_eq_getElem?_getD, List.getElem?_set_self (by omega)]
    rfl
  · have hne : (⟨b, j, none⟩ : Addr) ≠ ⟨b, 0 + i, none⟩ := by
      intro he
      injection he with _ h2 _
      omega
    rw [World.cell?_setCell_other _ _ _ _ hne, hc i hi, List.getD_eq_getElem?_getD, List.getD_eq_getElem?_getD, List.getElem?_set_ne (fun e => h e.symm)]

set_option maxHeartbeats 1000000 in
set_option maxRecDepth 100000 in
theorem walk_small (k : Nat) (s : ByteArray) (at_ bit : Int) (z : ByteArray) (j : Nat) (W : World) (hb0 : 0 ≤ bit) (hb1 : bit ≤ 255) (hs : s.size ≤ 1000) (hw : bulletinlaw02_works.f k = some true) (hz : crc_Seal.f k s = some z) (hzs : z.size = s.size + 4)
    (hf : crc_Fits.f k z = some true) (hj : bulletinbook_Below.f at_ (s.size + 4 : Int) = some (j : Int)) (hj1 : j < s.size + 4)
    (hn : crc_Fits.f k (strOfNums ((bytesOf z).set j (bits .xor .u8 ((bytesOf z)[j]?.getD 0) (2 ^ (bit % 8).toNat % 256)))) = some false) :
    Calls Try.prog 4 #[.string s, .int .i64 at_, .int .u8 bit] W fun e w' => e = .returned (.bool true) ∧ Below W.heap.size W w' := by
  have hs1 : ¬ (1000 : Int) < s.size := by omega
  go_enter Try.func4, Try.ntmps4
  go_wp2_with fail
  refine (bulletinlaw02_works.calls k true _ hw).mono ?_
  rintro e w1 ⟨rfl, hb1⟩
  go_wp2_with fail
  refine (crc_Seal.calls k s z _ hz).mono ?_
  rintro e w2 ⟨rfl, hb2⟩
  have hcv := Lib.run_convert_string_bytes (P := Try.prog) w2 9 29 5 z Try.underlying9 Try.underlying29 Try.underlying5
  have hc3 := bw_cell w2 5 z
  have hf3 := bw_frozen w2 5 z
  have hb3 := bw_below w2 5 z
  have hs3 := Lib.bytesWorld_size w2 5 z
  generalize Lib.bytesWorld w2 5 z = w3 at hcv hc3 hf3 hb3 hs3
  generalize grownCap w2 z.size 0 5 = cap at hcv
  have hcb := run_convert_bytes_arg (P := Try.prog) w3 29 5 Try.underlying29 Try.underlying5 w2.heap.size 0 z.size cap (bytesOf z) (bytesOf_length z) hc3 9 Try.underlying9
  rw [strOf_bytesOf] at hcb
  rw [hzs] at hcv hcb hc3 hf3
  have HL := Aside0.mk ((bytesOf_length z).trans hzs)
  have HN := Aside0.mk hn
  have HS3 := Aside0.mk hs3
  have HC3 := Aside0.mk hc3
  have HF3 := Aside0.mk hf3
  clear hzs hs3 hc3 hf3 hn
  go_wp2_with fail
  refine (crc_Fits.calls k z true _ hf).mono ?_
  rintro e w4 ⟨rfl, hb4⟩
  go_wp2_with fail
  refine (bulletinbook_Below.calls at_ _ j _ hj).mono ?_
  rintro e w5 ⟨rfl, ⟨nd, rfl⟩⟩
  have hlt : w2.heap.size < w3.heap.size := by have := HS3.out; omega
  have hc4 : w4.cell? ⟨w2.heap.size, j, none⟩ = some (.int .u8 ((bytesOf z).getD j 0)) := by
    have := HC3.out j hj1
    rw [Nat.zero_add] at this
    rw [← this]
    exact hb4.cell (p := ⟨w2.heap.size, j, none⟩) hlt
  have hf4 : w4.frozen? ⟨w2.heap.size, j, none⟩ = false := by
    rw [← HF3.out j hj1]
    exact hb4.frozen (p := ⟨w2.heap.size, j, none⟩) hlt
  have hj2 : (j : Int) < s.size + 4 := by omega
  have hj3 : (0 : Int) ≤ j := by omega
  go_wp2_with fail
  generalize bits .xor .u8 ((bytesOf z)[j]?.getD 0) (2 ^ (bit % 8).toNat % 256) = v at HN
  have hc6 := set_cell (w4.drewN nd) w2.heap.size (s.size + 4) (bytesOf z) j v HL.out hj1 (fun i hi => (HC3.out i hi).symm ▸ ((World.cell?_drewN _ _ _).trans (hb4.cell (p := ⟨w2.heap.size, 0 + i, none⟩) hlt)).trans rfl)
  have hcc := run_convert_bytes_arg (P := Try.prog) ((w4.drewN nd).setCell ⟨w2.heap.size, j, none⟩ (.int .u8 v)) 29 5 Try.underlying29 Try.underlying5 w2.heap.size 0 (s.size + 4) cap ((bytesOf z).set j v) (by rw [List.length_set]; exact HL.out) hc6 9 Try.underlying9
  have HCC := Aside0.mk hcc
  clear hcc hc6 hc4 hf4
  rw [HCC.out]
  go_wp2_with fail
  refine (crc_Fits.calls k _ false _ HN.out).mono ?_
  rintro e w6 ⟨rfl, hb6⟩
  go_wp2_with fail
  go_ret
  refine ⟨rfl, ?_⟩
  have h1 := hb1.trans (hb2.mono hb1.size)
  have h2 := h1.trans (hb3.mono h1.size)
  have h3 := h2.trans (hb4.mono h2.size)
  have h4 := (pw_below_drewN h3 nd).setCell (p := ⟨w2.heap.size, j, none⟩) (by have := h1.size; simpa using this) (.int .u8 v)
  exact h4.trans (hb6.mono h4.size)

set_option maxHeartbeats 1000000 in
set_option maxRecDepth 100000 in
theorem walk_long (k : Nat) (s : ByteArray) (at_ bit : Int) (W : World) (hs : 1000 < s.size) (hw : bulletinlaw02_works.f k = some true) :
    Calls Try.prog 4 #[.string s, .int .i64 at_, .int .u8 bit] W fun e w' => e = .returned (.bool true) ∧ Below W.heap.size W w' := by
  have hs1 : (1000 : Int) < s.size := by omega
  go_enter Try.func4, Try.ntmps4
  go_wp2_with fail
  refine (bulletinlaw02_works.calls k true _ hw).mono ?_
  rintro e w1 ⟨rfl, hb1⟩
  go_wp2_with fail
  go_ret
  exact ⟨rfl, hb1⟩
end Go.Proofs.Ytmkmkknnlckibaa.One
