-- Texts of this session put together by a program of it (wip/pack.py).
import Derived.Test.YtpniccllpfonfaaGreatDoorKG1
import Derived.Test.YtpniccllpfonfaaGreatDoorKQ6
import Derived.Laws.Bits64b
namespace Go.Proofs.YtpniccllpfonfaaGreatDoor.St
open Go Go.RowKit Go.Proofs.YtpniccllpfonfaaGreatDoorW.PrintWords Go.Proofs.YtpniccllpfonfaaGreatDoor.Wd Go.Proofs.YtpniccllpfonfaaGreatDoor.Q
/-- The byte that stands at place j of a number's eight. -/
def byteAt (n j : Nat) : Nat := n / 2 ^ (8 * (7 - j)) % 256
/-- The bytes when k are written. -/
def numsTo (n k : Nat) : List Int := (List.range 8).map fun j => if 8 ≤ j + k then (byteAt n j : Int) else 0
def bytesTo (n k : Nat) : List Value := (numsTo n k).map (Value.int .u8)
theorem numsTo_get (n k j : Nat) (hj : j < 8) : (numsTo n k)[j]? = some (if 8 ≤ j + k then (byteAt n j : Int) else 0) := by
  unfold numsTo
  rw [List.getElem?_map, List.getElem?_range hj]
  rfl
theorem numsTo_len (n k : Nat) : (numsTo n k).length = 8 := by simp [numsTo]
theorem bytesTo_step (n k : Nat) (hk : k < 8) : (bytesTo n k).toArray.setIfInBounds (7 - k) (.int .u8 ((n : Int) / 2 ^ (8 * k) % 256)) = (bytesTo n (k + 1)).toArray := by
  have e : ((n : Int) / 2 ^ (8 * k) % 256) = (byteAt n (7 - k) : Int) := by
    unfold byteAt
    rw [show 7 - (7 - k) = k by omega]
    simp
  rw [e, List.setIfInBounds_toArray]
  congr 1
  apply List.ext_getElem?
  intro j
  rw [List.getElem?_set]
  by_cases hj : 7 - k = j
  · subst hj
    rw [if_pos rfl, if_pos (by simp [bytesTo, numsTo_len]; omega)]
    unfold bytesTo
    rw [List.getElem?_map, numsTo_get n (k + 1) _ (by omega), if_pos (by omega)]
    rfl
  · rw [if_neg hj]
    unfold bytesTo
    rw [List.getElem?_map, List.getElem?_map]
    by_cases h8 : j < 8
    · rw [numsTo_get n k j h8, numsTo_get n (k + 1) j h8]
      by_cases h1 : 8 ≤ j + k
      · rw [if_pos h1, if_pos (by omega)]
      · rw [if_neg h1, if_neg (by omega)]
    · rw [List.getElem?_eq_none (by rw [numsTo_len]; omega), List.getElem?_eq_none (by rw [numsTo_len]; omega)]
section
variable {w : World}
set_option maxRecDepth 100000 in
set_option maxHeartbeats 4000000 in
theorem bytes_any (n : Nat) (_hn : n < 18446744073709551616) : Calls Tryz.prog 73 #[.int .u64 (n : Int)] w fun e w' => e = .returned (.string (strOfNums (numsTo n 8))) ∧ Below w.heap.size w w' := by
  go_enter Tryz.func73, Tryz.ntmps73
  go_wp2_with (fail)
  go_loopw [5] (fun i wr => ∃ k : Nat, k ≤ 8 ∧ i = .int .i64 (k : Int) ∧ wr.heap[w.heap.size]? = some (.cells (bytesTo n k).toArray 168 (0, 0)) ∧ Below w.heap.size w wr) (fun i _ => 8 - (intOf i).toNat)
  case atStart => exact ⟨0, by omega, rfl, heap_alloc_new w _, below_alloc (Below.refl _ _) _⟩
  case round =>
    obtain ⟨k, hk, rfl, hx, hb⟩ := hrel
    by_cases hlt : k < 8
    · have hc : wr.cell? ⟨w.heap.size, 7 - k, none⟩ = some (.int .u8 0) := by
        rw [blk_cell hx]
        have : (bytesTo n k)[7 - k]? = some (.int .u8 0) := by
          unfold bytesTo
          rw [List.getElem?_map, numsTo_get n k _ (by omega), if_neg (by omega)]
          rfl
        simpa using this
      have hf : wr.frozen? ⟨w.heap.size, 7 - k, none⟩ = false := blk_frozen hx _
      have k1 : (k : Int) < 8 := by omega
      have k2 : (0 : Int) ≤ 7 - (k : Int) := by omega
      have k3 : 7 - (k : Int) < 8 := by omega
      have k4 : (7 - (k : Int)).toNat = 7 - k := by omega
      have st := blk_set hx (7 - k) (.int .u8 ((n : Int) / 2 ^ (8 * k) % 256))
      rw [bytesTo_step n k hlt] at st
      have ST := Lib.hid st
      clear st
      go_wp2_with (fail)
      go_roundw
      case rel => exact ⟨k + 1, hlt, by simp, ST.out, hb.setCell (p := ⟨w.heap.size, 7 - k, none⟩) (Nat.le_refl _) _⟩
      case measure => simp [intOf]; omega
    · obtain rfl : k = 8 := by omega
      have hconv : (convert 169 9 (.slice (some ⟨w.heap.size, 0, none⟩) 8 8)).run Tryz.prog wr = .ok (.string (strOfNums (numsTo n 8))) wr :=
        run_convert_bytes_arg (P := Tryz.prog) wr 169 5 Tryz.underlying169 Tryz.underlying5 w.heap.size 0 8 8 (numsTo n 8) (numsTo_len n 8) (fun i hi => by
          rw [Nat.zero_add, blk_cell hx]
          have hi8 : i < (numsTo n 8).length := by rw [numsTo_len]; exact hi
          simp [bytesTo, List.getElem?_eq_getElem hi8]) 9 Tryz.underlying9
      go_wp2_with (fail)
      go_ret
      exact ⟨rfl, hb⟩
end
end Go.Proofs.YtpniccllpfonfaaGreatDoor.St
namespace Go.Proofs.YtpniccllpfonfaaGreatDoor.St
open Go Go.RowKit Go.Proofs.YtpniccllpfonfaaGreatDoorW.PrintWords Go.Proofs.YtpniccllpfonfaaGreatDoor.Wd Go.Proofs.YtpniccllpfonfaaGreatDoor.Q
def hexD (n : Nat) : UInt8 := UInt8.ofNat (if n < 10 then 48 + n else 87 + n)
def hex2 (b : UInt8) : List UInt8 := [hexD (b.toNat / 16), hexD (b.toNat % 16)]
def hexL (l : List UInt8) : List UInt8 := l.flatMap hex2
/-- While one byte is written: r of its signs. -/
def heldAt (b r : Nat) : Int := if r = 0 then (b : Int) else if r = 1 then ((b % 16 : Nat) : Int) else 0
def RHx (B : Nat) (w : World) (l : List UInt8) (b : UInt8) (vh vn : Value) (wr : World) : Prop :=
  ∃ r : Nat, r ≤ 2 ∧ vh = .int .i64 (heldAt b.toNat r) ∧ vn = .int .i64 ((8 - 4 * r : Nat) : Int) ∧ Lib.IsBuilderF 193 5 B B (Lib.byteCells (hexL l ++ (hex2 b).take r)) wr ∧ Below B w wr
theorem hex2_len (b : UInt8) : (hex2 b).length = 2 := rfl
theorem hexL_len : ∀ l, (hexL l).length = l.length * 2
  | [] => rfl
  | b :: l => by
    have := hexL_len l
    unfold hexL at *
    rw [List.flatMap_cons, List.length_append, this, hex2_len, List.length_cons]
    omega
theorem or0 : ∀ b : Fin 256, bits BinOp.or IntKind.i64 0 ((b.val : Nat) : Int) = (b.val : Int) := by decide +kernel
theorem and15 : ∀ b : Fin 256, bits BinOp.and IntKind.i64 ((b.val : Nat) : Int) 15 = ((b.val % 16 : Nat) : Int) := by decide +kernel
theorem and0 : ∀ b : Fin 256, bits BinOp.and IntKind.i64 (((b.val : Nat) : Int) % 16) 0 = 0 := by decide +kernel
theorem dig (i : Nat) (h : i < 16) : ∀ h2 : i < (⟨#[48, 49, 50, 51, 52, 53, 54, 55, 56, 57, 97, 98, 99, 100, 101, 102]⟩ : ByteArray).size, (⟨#[48, 49, 50, 51, 52, 53, 54, 55, 56, 57, 97, 98, 99, 100, 101, 102]⟩ : ByteArray)[i] = hexD i := by
  have : ∀ j : Fin 16, ∀ h2 : j.val < (⟨#[48, 49, 50, 51, 52, 53, 54, 55, 56, 57, 97, 98, 99, 100, 101, 102]⟩ : ByteArray).size, (⟨#[48, 49, 50, 51, 52, 53, 54, 55, 56, 57, 97, 98, 99, 100, 101, 102]⟩ : ByteArray)[j.val] = hexD j.val := by decide +kernel
  exact this ⟨i, h⟩
theorem cells_snoc (l : List UInt8) (x : UInt8) : Lib.byteCells (l ++ [x]) = Lib.byteCells l ++ [Value.int .u8 (x.toNat : Int)] := by simp [Lib.byteCells]
section
variable {w : World}
set_option maxRecDepth 100000 in
set_option maxHeartbeats 4000000 in
theorem write16_any (s : ByteArray) (hs : s.size < 10000000) : Calls Tryz.prog 117 #[.string s, .string ⟨#[48, 49, 50, 51, 52, 53, 54, 55, 56, 57, 97, 98, 99, 100, 101, 102]⟩, .int .i64 4] w fun e w' => e = .returned (.string ⟨(hexL s.data.toList).toArray⟩) ∧ Below w.heap.size w w' := by
  go_enter Tryz.func117, Tryz.ntmps117
  go_wp2_with (fail)
  go_loopw [8, 9, 13] (fun vh vn i wr => ∃ k : Nat, k ≤ s.size ∧ i = .int .i64 (k : Int) ∧ vh = .int .i64 0 ∧ vn = .int .i64 0 ∧ Lib.IsBuilderF 193 5 w.heap.size w.heap.size (Lib.byteCells (hexL (s.data.toList.take k))) wr ∧ Below w.heap.size w wr) (fun _ _ i _ => s.size - (intOf i).toNat)
  case atStart => exact ⟨0, Nat.zero_le _, rfl, rfl, rfl, Lib.IsBuilderF.of (Lib.fresh_isBuilder 193 5 w), (Below.refl _ w).alloc (Nat.le_refl _) _⟩
  case round =>
    obtain ⟨k, hk, rfl, rfl, rfl, hI, hB⟩ := hrel
    by_cases hlt : k < s.size
    · have k0 : (0 : Int) ≤ (k : Int) := by omega
      have k1 : (k : Int) < (s.size : Int) := by omega
      have hbl : s[k].toNat < 256 := s[k].toNat_lt
      have hor := or0 ⟨s[k].toNat, hbl⟩
      have HOR := Lib.hid hor
      clear hor
      have hxl : ∀ r, (hexL (s.data.toList.take k) ++ (hex2 s[k]).take r).length + 1 ≤ 140737488355328 := fun r => by
        rw [List.length_append, hexL_len, List.length_take, List.length_take, hex2_len]
        omega
      go_wp2_with (fail)
      go_loopw [8, 9] (fun vh vn wr => RHx w.heap.size w (s.data.toList.take k) s[k] vh vn wr) (fun _ vn _ => (intOf vn).toNat)
      case atStart => exact ⟨0, by omega, by rw [HOR.out]; rfl, rfl, by simpa using hI, hB⟩
      case round =>
        obtain ⟨r, hr, rfl, rfl, hI2, hB2⟩ := hrel
        have hx : r = 0 ∨ r = 1 ∨ r = 2 := by omega
        rcases hx with rfl | rfl | rfl
        · simp only [heldAt]
          go_wp2_with (go_at_call 137; (with_reducible refine (Bld.WriteByte w.heap.size w.heap.size _ _ _ hI2 (by rw [Lib.byteCells_length]; exact hxl 0) hB2.size).mono ?_); rintro e w2 ⟨rfl, h2, hb2, -⟩)
          have e0 := and15 ⟨s[k].toNat, hbl⟩
          have d0 := dig (s[k].toNat / 16) (by omega) (show _ < 16 by omega)
          refine ⟨⟨1, by omega, ?_, rfl, .inr ?_, hB2.trans hb2⟩, by simp [intOf]⟩
          · show Value.int .i64 (bits BinOp.and IntKind.i64 (s[k].toNat : Int) 15) = _
            rw [show bits BinOp.and IntKind.i64 (s[k].toNat : Int) 15 = ((s[k].toNat % 16 : Nat) : Int) from e0]
            rfl
          · have e1 : hexL (s.data.toList.take k) ++ (hex2 s[k]).take 1 = (hexL (s.data.toList.take k) ++ (hex2 s[k]).take 0) ++ [hexD (s[k].toNat / 16)] := by simp [hex2]
            rw [e1, cells_snoc, ← d0]
            exact h2
        · simp only [heldAt]
          go_wp2_with (go_at_call 137; (with_reducible refine (Bld.WriteByte w.heap.size w.heap.size _ _ _ hI2 (by rw [Lib.byteCells_length]; exact hxl 1) hB2.size).mono ?_); rintro e w2 ⟨rfl, h2, hb2, -⟩)
          have e0 := and0 ⟨s[k].toNat, hbl⟩
          have d0 := dig (s[k].toNat % 16) (by omega) (show _ < 16 by omega)
          refine ⟨⟨2, by omega, ?_, rfl, .inr ?_, hB2.trans hb2⟩, by simp [intOf]⟩
          · show Value.int .i64 (bits BinOp.and IntKind.i64 ((s[k].toNat : Int) % 16) 0) = _
            rw [show bits BinOp.and IntKind.i64 ((s[k].toNat : Int) % 16) 0 = 0 from e0]
            rfl
          · have e1 : hexL (s.data.toList.take k) ++ (hex2 s[k]).take 2 = (hexL (s.data.toList.take k) ++ (hex2 s[k]).take 1) ++ [hexD (s[k].toNat % 16)] := by simp [hex2]
            rw [e1, cells_snoc, ← d0]
            exact h2
        · simp only [heldAt]
          go_wp2_with (fail)
          go_roundw
          case rel =>
            refine ⟨k + 1, hlt, by simp, rfl, rfl, ?_, hB2⟩
            have hkl : k < s.data.toList.length := by rw [Array.length_toList]; exact hlt
            have e1 : hexL (s.data.toList.take (k + 1)) = hexL (s.data.toList.take k) ++ (hex2 s[k]).take 2 := by
              rw [List.take_succ_eq_append_getElem hkl]
              simp [hexL, hex2]
              exact ⟨rfl, rfl⟩
            rw [e1]
            exact hI2
          case measure => simp [intOf]; omega
    · obtain rfl : k = s.size := by omega
      go_wp2_with (go_at_call 138; (with_reducible refine (Tryz.Builder_String_any_k w.heap.size w.heap.size _ _ hI hB.size).mono ?_); rintro e w1 ⟨rfl, _, hb1, -⟩)
      go_ret
      refine ⟨?_, hB.trans hb1⟩
      have e : s.data.toList.take s.size = s.data.toList := List.take_of_length_le (by rw [Array.length_toList]; exact Nat.le_refl _)
      show Ending.returned (.string ⟨(hexL (s.data.toList.take s.size)).toArray⟩) = _
      rw [e]
end
end Go.Proofs.YtpniccllpfonfaaGreatDoor.St
namespace Go.Proofs.YtpniccllpfonfaaGreatDoor.St
open Go Go.RowKit Go.Proofs.YtpniccllpfonfaaGreatDoorW.PrintWords Go.Proofs.YtpniccllpfonfaaGreatDoor.Wd Go.Proofs.YtpniccllpfonfaaGreatDoor.Q
/-- A number's key. -/
def keyOf (n : Nat) : ByteArray := ⟨(hexL (strOfNums (numsTo n 8)).data.toList).toArray⟩
section
variable {w : World}
set_option maxRecDepth 100000 in
set_option maxHeartbeats 4000000 in
theorem key_any (n : Nat) (hn : n < 9223372036854775808) : Calls Tryz.prog 36 #[.int .i64 (n : Int)] w fun e w' => e = .returned (.string (keyOf n)) ∧ Below w.heap.size w w' := by
  have hsz : (strOfNums (numsTo n 8)).size = 8 := by rw [strOfNums_size, numsTo_len]
  have h16 : ∀ W, Calls Tryz.prog 72 #[.string (strOfNums (numsTo n 8))] W fun e w' => e = .returned (.string (keyOf n)) ∧ Below W.heap.size W w' := fun W => by
    go_enter Tryz.func72, Tryz.ntmps72
    go_wp2_with (go_at_call 117; (with_reducible refine (write16_any _ (by rw [hsz]; decide)).mono ?_); rintro e w1 ⟨rfl, b1⟩)
    go_ret
    exact ⟨rfl, b1⟩
  have hb := fun W => bytes_any (w := W) n (by omega)
  have hw : IntKind.u64.wrap (n : Int) = (n : Int) := by rw [IntKind.wrap_u64]; omega
  clear hsz
  go_enter Tryz.func36, Tryz.ntmps36
  go_wp2_with (first
    | (go_at_call 73; (with_reducible refine (hb _).mono ?_); rintro e w1 ⟨rfl, b1⟩)
    | (go_at_call 72; (with_reducible refine (h16 _).mono ?_); rintro e w2 ⟨rfl, b2⟩))
  go_ret
  exact ⟨rfl, b1.trans (b2.mono b1.size)⟩
end
end Go.Proofs.YtpniccllpfonfaaGreatDoor.St
namespace Go.Proofs.YtpniccllpfonfaaGreatDoor.St
open Go Go.RowKit Go.Proofs.YtpniccllpfonfaaGreatDoorW.PrintWords Go.Proofs.YtpniccllpfonfaaGreatDoor.Wd Go.Proofs.YtpniccllpfonfaaGreatDoor.Q
def signs16 : List UInt8 := [48, 49, 50, 51, 52, 53, 54, 55, 56, 57, 97, 98, 99, 100, 101, 102]
/-- A sign's number; -1: it is none. -/
def valOf (c : UInt8) : Int := Lib.indexByte signs16 c
theorem valOf_hex : ∀ i : Fin 16, valOf (hexD i.val) = (i.val : Int) := by decide +kernel
theorem valOf_lt : ∀ c : Fin 256, valOf (UInt8.ofNat c.val) < 16 := by decide +kernel
theorem valOf_back : ∀ c : Fin 256, 0 ≤ valOf (UInt8.ofNat c.val) → hexD (valOf (UInt8.ofNat c.val)).toNat = UInt8.ofNat c.val := by decide +kernel
/-- Signs that were read: bytes, and perhaps one sign more. -/
def RRd (B : Nat) (w : World) (s : ByteArray) (vh vn i : Value) (wr : World) : Prop :=
  ∃ (k : Nat) (bs : List UInt8), k ≤ s.size ∧ i = .int .i64 (k : Int) ∧ Lib.IsBuilderF 193 5 B B (Lib.byteCells bs) wr ∧ Below B w wr ∧
    ((s.data.toList.take k = hexL bs ∧ vh = .int .i64 0 ∧ vn = .int .i64 0) ∨ ∃ c, s.data.toList.take k = hexL bs ++ [c] ∧ 0 ≤ valOf c ∧ vh = .int .i64 (valOf c) ∧ vn = .int .i64 4)
theorem val_lt (c : UInt8) : valOf c < 16 := by
  have := valOf_lt ⟨c.toNat, c.toNat_lt⟩
  rwa [show UInt8.ofNat (⟨c.toNat, c.toNat_lt⟩ : Fin 256).val = c from UInt8.ofNat_toNat] at this
theorem or_fin : ∀ i : Fin 16, bits BinOp.or IntKind.i64 0 (i.val : Int) = (i.val : Int) := by decide +kernel
theorem or_small (v : Int) (h0 : 0 ≤ v) (h1 : v < 16) : bits BinOp.or IntKind.i64 0 v = v := by
  have := or_fin ⟨v.toNat, by omega⟩
  rwa [show (((⟨v.toNat, by omega⟩ : Fin 16).val : Nat) : Int) = v from Int.toNat_of_nonneg h0] at this
theorem or_fin2 : ∀ i j : Fin 16, bits BinOp.or IntKind.i64 (wrap64 ((i.val : Int) * 16)) (j.val : Int) = ((16 * i.val + j.val : Nat) : Int) := by decide +kernel
theorem or_two (x y : Int) (h0 : 0 ≤ x) (h1 : x < 16) (h2 : 0 ≤ y) (h3 : y < 16) : bits BinOp.or IntKind.i64 (wrap64 (x * 16)) y = 16 * x + y := by
  have := or_fin2 ⟨x.toNat, by omega⟩ ⟨y.toNat, by omega⟩
  simp only [Int.toNat_of_nonneg h0, Int.toNat_of_nonneg h2] at this
  rw [this]
  omega
theorem and_fin : ∀ i : Fin 256, bits BinOp.and IntKind.i64 (i.val : Int) 0 = 0 := by decide +kernel
theorem and_zero (x : Int) (h0 : 0 ≤ x) (h1 : x < 256) : bits BinOp.and IntKind.i64 x 0 = 0 := by
  have := and_fin ⟨x.toNat, by omega⟩
  simp only [Int.toNat_of_nonneg h0] at this
  exact this
theorem val_back (c : UInt8) (h : 0 ≤ valOf c) : hexD (valOf c).toNat = c := by
  have e : UInt8.ofNat (⟨c.toNat, c.toNat_lt⟩ : Fin 256).val = c := UInt8.ofNat_toNat
  have := valOf_back ⟨c.toNat, c.toNat_lt⟩ (by rw [e]; exact h)
  rwa [e] at this
theorem two_signs (c d : UInt8) (hc : 0 ≤ valOf c) (hd : 0 ≤ valOf d) : ∃ b : UInt8, bits BinOp.or IntKind.i64 (wrap64 (valOf c * 16)) (valOf d) % 256 = (b.toNat : Int) ∧ hex2 b = [c, d] := by
  have h1 := val_lt c
  have h2 := val_lt d
  refine ⟨UInt8.ofNat (16 * (valOf c).toNat + (valOf d).toNat), ?_, ?_⟩
  · rw [or_two _ _ hc h1 hd h2, UInt8.toNat_ofNat']
    omega
  · have hn : (UInt8.ofNat (16 * (valOf c).toNat + (valOf d).toNat)).toNat = 16 * (valOf c).toNat + (valOf d).toNat := by
      rw [UInt8.toNat_ofNat']
      omega
    unfold hex2
    rw [hn, show (16 * (valOf c).toNat + (valOf d).toNat) / 16 = (valOf c).toNat by omega, show (16 * (valOf c).toNat + (valOf d).toNat) % 16 = (valOf d).toNat by omega, val_back c hc, val_back d hd]
theorem hex_mem (bs : List UInt8) (x : UInt8) (h : x ∈ hexL bs) : 0 ≤ valOf x := by
  obtain ⟨b, _, hb⟩ := List.mem_flatMap.1 h
  have hbl := b.toNat_lt
  have f : ∀ i, i < 16 → 0 ≤ valOf (hexD i) := fun i hi => by
    have := valOf_hex ⟨i, hi⟩
    simp only at this
    rw [this]
    omega
  simp only [hex2, List.mem_cons, List.not_mem_nil, or_false] at hb
  rcases hb with rfl | rfl
  · exact f _ (by omega)
  · exact f _ (by omega)
theorem take_at (s : ByteArray) {k : Nat} (h : k < s.size) : s.data.toList.take (k + 1) = s.data.toList.take k ++ [s[k]] := by
  have hkl : k < s.data.toList.length := by rw [Array.length_toList]; exact h
  rw [List.take_succ_eq_append_getElem hkl]
  rfl
theorem mem_at (s : ByteArray) {k : Nat} (h : k < s.size) : s[k] ∈ s.data.toList := by
  have hkl : k < s.data.toList.length := by rw [Array.length_toList]; exact h
  exact List.getElem_mem hkl
theorem bldD {B : Nat} {bs : List Value} {w w1 : World} (h : Lib.IsBuilderF 193 5 B B bs w) (hd : Drawn0 w w1) : Lib.IsBuilderF 193 5 B B bs w1 := by
  exact bld_below h hd.below
section
variable {w : World}
set_option maxRecDepth 100000 in
set_option maxHeartbeats 4000000 in
theorem read16_any (s : ByteArray) (hs : s.size < 10000000) : Calls Tryz.prog 116 #[.string s, .string ⟨#[48, 49, 50, 51, 52, 53, 54, 55, 56, 57, 97, 98, 99, 100, 101, 102]⟩, .int .i64 4] w fun e w' => ((∃ bs, s.data.toList = hexL bs ∧ e = .returned (.tuple #[.string ⟨bs.toArray⟩, .int .i64 0])) ∨ ((∀ bs, s.data.toList ≠ hexL bs) ∧ e = .returned (.tuple #[.string ⟨#[]⟩, .int .i64 3]))) ∧ Below w.heap.size w w' := by
  go_enter Tryz.func116, Tryz.ntmps116
  go_wp2_with (fail)
  go_loopw [9, 10, 15] (fun vh vn i wr => RRd w.heap.size w s vh vn i wr) (fun _ _ i _ => s.size - (intOf i).toNat)
  case atStart => exact ⟨0, [], Nat.zero_le _, rfl, Lib.IsBuilderF.of (Lib.fresh_isBuilder 193 5 w), (Below.refl _ w).alloc (Nat.le_refl _) _, .inl ⟨rfl, rfl, rfl⟩⟩
  case round =>
    obtain ⟨k, bs, hk, rfl, hI, hB, hst⟩ := hrel
    by_cases hlt : k < s.size
    · have k0 : (0 : Int) ≤ (k : Int) := by omega
      have k1 : (k : Int) < (s.size : Int) := by omega
      have hix : strings_IndexByte.f ⟨#[48, 49, 50, 51, 52, 53, 54, 55, 56, 57, 97, 98, 99, 100, 101, 102]⟩ (s[k].toNat : Int) = some (valOf s[k]) := by
        unfold strings_IndexByte.f valOf signs16
        simp
      have HX := Lib.hid hix
      clear hix
      rcases hst with ⟨ht, rfl, rfl⟩ | ⟨c, ht, hc0, rfl, rfl⟩
      · go_wp2_with (go_at_call 159; (with_reducible refine (strings_IndexByte.calls _ _ _ _ HX.out).mono ?_); rintro e w1 ⟨rfl, hd⟩)
        · have h9 : valOf s[k] < 0 := by assumption
          go_ret2
          refine ⟨.inr ⟨fun bs' e => ?_, rfl⟩, hB.trans (hd.below.mono hB.size)⟩
          have := hex_mem bs' s[k] (by rw [← e]; exact mem_at s hlt)
          omega
        · have h9 : 0 ≤ valOf s[k] := by assumption
          have h8 := val_lt s[k]
          refine ⟨⟨k + 1, bs, hlt, by simp, bldD hI hd, hB.trans (hd.below.mono hB.size), .inr ⟨s[k], by rw [take_at s hlt, ht], h9, ?_, rfl⟩⟩, by simp [intOf]; omega⟩
          rw [or_small _ h9 h8]
      · go_wp2_with (go_at_call 159; (with_reducible refine (strings_IndexByte.calls _ _ _ _ HX.out).mono ?_); rintro e w1 ⟨rfl, hd⟩)
        · have h9 : valOf s[k] < 0 := by assumption
          go_ret2
          refine ⟨.inr ⟨fun bs' e => ?_, rfl⟩, hB.trans (hd.below.mono hB.size)⟩
          have := hex_mem bs' s[k] (by rw [← e]; exact mem_at s hlt)
          omega
        · have h9 : 0 ≤ valOf s[k] := by assumption
          have h8 := val_lt s[k]
          have h7 := val_lt c
          have hbw : w.heap.size ≤ w1.heap.size := Nat.le_trans hB.size hd.below.size
          have hbl : (Lib.byteCells bs).length + 1 ≤ 140737488355328 := by
            rw [Lib.byteCells_length]
            have h1 := congrArg List.length ht
            rw [List.length_append, hexL_len, List.length_take] at h1
            omega
          (go_at_call 137; (with_reducible refine (Bld.WriteByte w.heap.size w.heap.size _ _ _ (bldD hI hd) hbl hbw).mono ?_); rintro e w2 ⟨rfl, h2, hb2, -⟩)
          go_wp2_with (fail)
          obtain ⟨b, hb1, hb3⟩ := two_signs c s[k] hc0 h9
          refine ⟨⟨k + 1, bs ++ [b], hlt, by simp, .inr ?_, (hB.trans (hd.below.mono hB.size)).trans hb2, .inl ⟨?_, ?_, rfl⟩⟩, by simp [intOf]; omega⟩
          · rw [cells_snoc, ← hb1]
            exact h2
          · rw [take_at s hlt, ht, List.append_assoc]
            unfold hexL
            rw [List.flatMap_append]
            simp only [List.flatMap_cons, List.flatMap_nil, List.append_nil, hb3]
            rfl
          · rw [or_two _ _ hc0 h7 h9 h8]
            exact congrArg (Value.int .i64) (and_zero _ (by omega) (by omega))
    · obtain rfl : k = s.size := by omega
      have e9 : s.data.toList.take s.size = s.data.toList := List.take_of_length_le (by rw [Array.length_toList]; exact Nat.le_refl _)
      have hbsl : ∀ x, s.data.toList = hexL bs ++ x → (⟨bs.toArray⟩ : ByteArray).size < 10000000 := fun x h => by
        have h1 := congrArg List.length h
        rw [List.length_append, hexL_len, Array.length_toList] at h1
        show bs.toArray.size < _
        rw [List.size_toArray]
        have : s.data.size = s.size := rfl
        omega
      rw [e9] at hst
      rcases hst with ⟨ht, rfl, rfl⟩ | ⟨c, ht, hc0, rfl, rfl⟩
      · have hs2 : (⟨(hexL bs).toArray⟩ : ByteArray) = s := by
          apply ByteArray.ext
          apply Array.toList_inj.1
          rw [ht]
        have hwr : ∀ W, Calls Tryz.prog 117 #[.string ⟨bs.toArray⟩, .string ⟨#[48, 49, 50, 51, 52, 53, 54, 55, 56, 57, 97, 98, 99, 100, 101, 102]⟩, .int .i64 4] W fun e w' => e = .returned (.string s) ∧ Below W.heap.size W w' := fun W => by
          have := write16_any (w := W) ⟨bs.toArray⟩ (hbsl [] (by simpa using ht))
          rw [show (⟨bs.toArray⟩ : ByteArray).data.toList = bs by simp, hs2] at this
          exact this
        have HT := Lib.hid ht
        clear ht hs2 e9 hbsl
        have hsz := hB.size
        go_wp2_with (fail)
        (go_at_call 138; (with_reducible refine (Tryz.Builder_String_any_k w.heap.size w.heap.size _ _ hI hsz).mono ?_); rintro e w1 ⟨rfl, hI1, hb1, -⟩)
        have hb1s := hb1.size
        go_wp2_with (go_at_call 117; (with_reducible refine (hwr _).mono ?_); rintro e w2 ⟨rfl, hb2⟩)
        have hI2 := bld_below hI1 hb2
        have hsz2 : w.heap.size ≤ w2.heap.size := by
          have := hb2.size
          omega
        (go_at_call 138; (with_reducible refine (Tryz.Builder_String_any_k w.heap.size w.heap.size _ _ hI2 hsz2).mono ?_); rintro e w3 ⟨rfl, hI3, hb3, -⟩)
        go_wp2_with (fail)
        go_ret2
        have hbb : Below w.heap.size w w3 := ((hB.trans hb1).trans (hb2.mono (by omega))).trans hb3
        exact ⟨.inl ⟨bs, HT.out, rfl⟩, hbb⟩
      · have hwr : ∀ W, Calls Tryz.prog 117 #[.string ⟨bs.toArray⟩, .string ⟨#[48, 49, 50, 51, 52, 53, 54, 55, 56, 57, 97, 98, 99, 100, 101, 102]⟩, .int .i64 4] W fun e w' => e = .returned (.string ⟨(hexL bs).toArray⟩) ∧ Below W.heap.size W w' := fun W => by
          have := write16_any (w := W) ⟨bs.toArray⟩ (hbsl [c] ht)
          rw [show (⟨bs.toArray⟩ : ByteArray).data.toList = bs by simp] at this
          exact this
        have hodd : ∀ bs' : List UInt8, s.data.toList ≠ hexL bs' := fun bs' e => by
          have h1 := congrArg List.length ht
          have h2 := congrArg List.length e
          rw [List.length_append, hexL_len, List.length_singleton] at h1
          rw [hexL_len] at h2
          omega
        have hne : (s.toList == (⟨(hexL bs).toArray⟩ : ByteArray).toList) = false := by
          rw [ByteArray.toList_eq, ByteArray.toList_eq]
          simpa using hodd bs
        have hne2 : ((⟨(hexL bs).toArray⟩ : ByteArray).toList == s.toList) = false := by
          rw [ByteArray.toList_eq, ByteArray.toList_eq]
          simpa using fun e => hodd bs e.symm
        have HO := Lib.hid hodd
        clear ht hodd e9 hbsl
        have hsz := hB.size
        obtain ⟨t, ht⟩ : ∃ t, t = (⟨(hexL bs).toArray⟩ : ByteArray) := ⟨_, rfl⟩
        rw [← ht] at hne hne2 hwr
        clear ht
        go_wp2_with (fail)
        (go_at_call 138; (with_reducible refine (Tryz.Builder_String_any_k w.heap.size w.heap.size _ _ hI hsz).mono ?_); rintro e w1 ⟨rfl, hI1, hb1, -⟩)
        have hb1s := hb1.size
        go_wp2_with (go_at_call 117; (with_reducible refine (hwr _).mono ?_); rintro e w2 ⟨rfl, hb2⟩)
        go_ret2
        have hbb : Below w.heap.size w w2 := (hB.trans hb1).trans (hb2.mono (by omega))
        exact ⟨.inr ⟨HO.out, rfl⟩, hbb⟩
end
end Go.Proofs.YtpniccllpfonfaaGreatDoor.St
namespace Go.Proofs.YtpniccllpfonfaaGreatDoor.St
open Go Go.RowKit Go.Proofs.YtpniccllpfonfaaGreatDoorW.PrintWords Go.Proofs.YtpniccllpfonfaaGreatDoor.Wd Go.Proofs.YtpniccllpfonfaaGreatDoor.Q
/-- What bytes are worth. -/
def worth (l : List UInt8) : Nat := l.foldl (fun n c => 256 * n + c.toNat) 0
theorem worth_snoc (l : List UInt8) (c : UInt8) : worth (l ++ [c]) = 256 * worth l + c.toNat := by
  unfold worth
  rw [List.foldl_append]
  rfl
theorem worth_lt (l : List UInt8) : worth l < 256 ^ l.length := by
  have aux : ∀ (l : List UInt8) (n : Nat), l.foldl (fun n c => 256 * n + c.toNat) n < 256 ^ l.length * (n + 1) := by
    intro l
    induction l with
    | nil => intro n; simp
    | cons c l ih =>
      intro n
      have h1 := ih (256 * n + c.toNat)
      have h2 := c.toNat_lt
      have h3 : 256 ^ l.length * (256 * n + c.toNat + 1) ≤ 256 ^ l.length * (256 * (n + 1)) := Nat.mul_le_mul_left _ (by omega)
      rw [List.foldl_cons, List.length_cons, Nat.pow_succ, Nat.mul_assoc]
      exact Nat.lt_of_lt_of_le h1 h3
  have := aux l 0
  simpa [worth] using this
theorem or_worth (a : Nat) (c : UInt8) (h : 256 * a + c.toNat < 18446744073709551616) : bits BinOp.or IntKind.u64 (IntKind.u64.wrap ((a : Int) * 256)) (c.toNat : Int) = ((256 * a + c.toNat : Nat) : Int) := by
  have hc := c.toNat_lt
  rw [show (a : Int) * 256 = ((256 * a : Nat) : Int) by omega, IntKind.wrap_u64, show (((256 * a : Nat) : Int) % 18446744073709551616) = ((256 * a : Nat) : Int) by omega]
  rw [bits_or_u64_nat _ _ (by omega) (by omega)]
  congr 1
  exact (Nat.two_pow_add_eq_or_of_lt (i := 8) hc a).symm
section
variable {w : World}
set_option maxRecDepth 100000 in
set_option maxHeartbeats 4000000 in
theorem cnum_any (s : ByteArray) (hs : s.size = 8) : Calls Tryz.prog 71 #[.string s] w fun e w' => e = .returned (.tuple #[.int .u64 (worth s.data.toList : Int), .int .i64 0]) ∧ Below w.heap.size w w' := by
  go_enter Tryz.func71, Tryz.ntmps71
  have hs' : (s.size : Int) = 8 := by omega
  go_wp2_with (fail)
  go_loopw [4, 11] (fun v i wr => ∃ k : Nat, k ≤ 8 ∧ i = .int .i64 (k : Int) ∧ v = .int .u64 (worth (s.data.toList.take k) : Int) ∧ Below w.heap.size w wr) (fun _ i _ => 8 - (intOf i).toNat)
  case atStart => exact ⟨0, by omega, rfl, rfl, Below.refl _ _⟩
  case round =>
    obtain ⟨k, hk, rfl, rfl, hb⟩ := hrel
    by_cases hlt : k < 8
    · have k1 : (k : Int) < 8 := by omega
      have k2 : k < s.size := by omega
      have hkl : k < s.data.toList.length := by rw [Array.length_toList]; exact k2
      have e1 := worth_snoc (s.data.toList.take k) s[k]
      rw [← take_at s k2] at e1
      have hw := worth_lt (s.data.toList.take (k + 1))
      rw [List.length_take, show min (k + 1) s.data.toList.length = k + 1 by omega] at hw
      have hp : 256 ^ (k + 1) ≤ 256 ^ 8 := Nat.pow_le_pow_right (by omega) (by omega)
      have e2 := or_worth (worth (s.data.toList.take k)) s[k] (by rw [← e1]; omega)
      rw [← e1] at e2
      have E2 := Lib.hid e2
      clear e1 e2 hw hp
      go_wp2_with (fail)
      go_roundw
      case rel =>
        refine ⟨k + 1, hlt, by simp, ?_, hb⟩
        have hb8 := s[k].toNat_lt
        rw [show IntKind.u64.wrap (s[k].toNat : Int) = (s[k].toNat : Int) by rw [IntKind.wrap_u64]; omega, E2.out]
      case measure => simp [intOf]; omega
    · obtain rfl : k = 8 := by omega
      have e9 : s.data.toList.take 8 = s.data.toList := List.take_of_length_le (by rw [Array.length_toList]; exact Nat.le_of_eq hs)
      rw [e9]
      clear e9
      go_wp2_with (fail)
      go_ret2
      exact ⟨rfl, hb⟩
set_option maxRecDepth 100000 in
set_option maxHeartbeats 4000000 in
theorem cnum_bad (s : ByteArray) (hs : s.size ≠ 8) : Calls Tryz.prog 71 #[.string s] w fun e w' => e = .returned (.tuple #[.int .u64 0, .int .i64 4]) ∧ Below w.heap.size w w' := by
  go_enter Tryz.func71, Tryz.ntmps71
  have hs' : (s.size : Int) ≠ 8 := by omega
  go_wp2_with (fail)
  go_ret2
  exact ⟨rfl, Below.refl _ _⟩
theorem hexD_inj : ∀ i j : Fin 16, hexD i.val = hexD j.val → i = j := by decide +kernel
theorem hexD_inj' {i j : Nat} (hi : i < 16) (hj : j < 16) (h : hexD i = hexD j) : i = j := by
  have := hexD_inj ⟨i, hi⟩ ⟨j, hj⟩ h
  exact congrArg Fin.val this
theorem hex2_inj {b c : UInt8} (h : hex2 b = hex2 c) : b = c := by
  have hb := b.toNat_lt
  have hc := c.toNat_lt
  simp only [hex2, List.cons.injEq, and_true] at h
  have h1 := hexD_inj' (by omega) (by omega) h.1
  have h2 := hexD_inj' (by omega) (by omega) h.2
  apply UInt8.toNat_inj.1
  omega
theorem hexL_inj : ∀ {l m : List UInt8}, hexL l = hexL m → l = m
  | [], [], _ => rfl
  | [], c :: m, h => by simp [hexL, hex2] at h
  | c :: l, [], h => by simp [hexL, hex2] at h
  | c :: l, d :: m, h => by
    unfold hexL at h
    rw [List.flatMap_cons, List.flatMap_cons] at h
    obtain ⟨h1, h2⟩ := List.append_inj h rfl
    rw [hex2_inj h1, hexL_inj h2]
theorem of16_any (s : ByteArray) (hs : s.size < 10000000) : Calls Tryz.prog 70 #[.string s] w fun e w' => ((∃ bs, s.data.toList = hexL bs ∧ e = .returned (.tuple #[.string ⟨bs.toArray⟩, .int .i64 0])) ∨ ((∀ bs, s.data.toList ≠ hexL bs) ∧ e = .returned (.tuple #[.string ⟨#[]⟩, .int .i64 3]))) ∧ Below w.heap.size w w' := by
  have hr := read16_any (w := w) s hs
  go_enter Tryz.func70, Tryz.ntmps70
  go_wp2_with (go_at_call 116; (with_reducible refine hr.mono ?_); rintro e w1 ⟨⟨bs, hq, rfl⟩ | ⟨hq, rfl⟩, b1⟩)
  · go_ret2
    exact ⟨.inl ⟨bs, hq, rfl⟩, b1⟩
  · go_ret2
    exact ⟨.inr ⟨hq, rfl⟩, b1⟩
/-- What the number of a text is. -/
def NumIs (s : ByteArray) (n : Int) (ok : Bool) : Prop := (∃ bs, s.data.toList = hexL bs ∧ bs.length = 8 ∧ worth bs ≤ 1099511627776 ∧ n = (worth bs : Int) ∧ ok = true) ∨ ((∀ bs, s.data.toList = hexL bs → bs.length = 8 → 1099511627776 < worth bs) ∧ n = 0 ∧ ok = false)
set_option maxRecDepth 100000 in
set_option maxHeartbeats 4000000 in
theorem number_any (s : ByteArray) (hs : s.size < 10000000) : Calls Tryz.prog 34 #[.string s] w fun e w' => (∃ n ok, NumIs s n ok ∧ e = .returned (.tuple #[.int .i64 n, .bool ok])) ∧ Below w.heap.size w w' := by
  have hr := fun W => of16_any (w := W) s hs
  go_enter Tryz.func34, Tryz.ntmps34
  go_wp2_with (go_at_call 70; (with_reducible refine (hr _).mono ?_); rintro e w1 ⟨⟨bs, hq, rfl⟩ | ⟨hq, rfl⟩, b1⟩)
  · by_cases h8 : bs.length = 8
    · have hz : (⟨bs.toArray⟩ : ByteArray).size = 8 := by show bs.toArray.size = 8; rw [List.size_toArray]; exact h8
      have hn := fun W => cnum_any (w := W) ⟨bs.toArray⟩ hz
      rw [show (⟨bs.toArray⟩ : ByteArray).data.toList = bs by simp] at hn
      have hlt := worth_lt bs
      rw [h8] at hlt
      have HQ := Lib.hid hq
      have H8 := Lib.hid h8
      clear hq h8 hz
      by_cases hm : worth bs ≤ 1099511627776
      · have hm' : (worth bs : Int) ≤ 1099511627776 := by omega
        have hm2 : ¬ 1099511627776 < (worth bs : Int) := by omega
        have hm3 : wrap64 (worth bs : Int) = (worth bs : Int) := by unfold wrap64; omega
        (go_at_call 71; (with_reducible refine (hn _).mono ?_); rintro e w2 ⟨rfl, b2⟩)
        go_wp2_with (fail)
        go_ret2
        exact ⟨⟨(worth bs : Int), true, .inl ⟨bs, HQ.out, H8.out, hm, rfl, rfl⟩, rfl⟩, b1.trans (b2.mono b1.size)⟩
      · have hm' : ¬ (worth bs : Int) ≤ 1099511627776 := by omega
        have hm2 : 1099511627776 < (worth bs : Int) := by omega
        (go_at_call 71; (with_reducible refine (hn _).mono ?_); rintro e w2 ⟨rfl, b2⟩)
        go_wp2_with (fail)
        go_ret2
        refine ⟨⟨0, false, .inr ⟨fun bs' e _ => ?_, rfl, rfl⟩, rfl⟩, b1.trans (b2.mono b1.size)⟩
        rw [hexL_inj (e.symm.trans HQ.out)]
        omega
    · have hz : (⟨bs.toArray⟩ : ByteArray).size ≠ 8 := by show bs.toArray.size ≠ 8; rw [List.size_toArray]; exact h8
      have hn := fun W => cnum_bad (w := W) ⟨bs.toArray⟩ hz
      have HQ := Lib.hid hq
      have H8 := Lib.hid h8
      clear hq h8 hz
      (go_at_call 71; (with_reducible refine (hn _).mono ?_); rintro e w2 ⟨rfl, b2⟩)
      go_wp2_with (fail)
      go_ret2
      refine ⟨⟨0, false, .inr ⟨fun bs' e h => ?_, rfl, rfl⟩, rfl⟩, b1.trans (b2.mono b1.size)⟩
      exact absurd (hexL_inj (e.symm.trans HQ.out) ▸ h) H8.out
  · go_ret2
    exact ⟨⟨0, false, .inr ⟨fun bs e => absurd e (hq bs), rfl, rfl⟩, rfl⟩, b1⟩
end
end Go.Proofs.YtpniccllpfonfaaGreatDoor.St
namespace Go.Proofs.YtpniccllpfonfaaGreatDoor.St
open Go Go.RowKit Go.Proofs.YtpniccllpfonfaaGreatDoorW.PrintWords Go.Proofs.YtpniccllpfonfaaGreatDoor.Wd
theorem worth_from (l : List UInt8) : ∀ n, l.foldl (fun n c => 256 * n + c.toNat) n = n * 256 ^ l.length + worth l := by
  induction l with
  | nil => intro n; simp [worth]
  | cons c l ih =>
    intro n
    have h0 : worth (c :: l) = (256 * 0 + c.toNat) * 256 ^ l.length + worth l := ih (256 * 0 + c.toNat)
    have h1 : (256 * n + c.toNat) * 256 ^ l.length = n * (256 ^ l.length * 256) + c.toNat * 256 ^ l.length := by
      rw [Nat.add_mul, Nat.mul_comm 256 n, Nat.mul_assoc, Nat.mul_comm 256]
    rw [List.foldl_cons, ih, h0, List.length_cons, Nat.pow_succ, h1, Nat.mul_zero, Nat.zero_add, Nat.add_assoc]
theorem worth_cons (c : UInt8) (l : List UInt8) : worth (c :: l) = c.toNat * 256 ^ l.length + worth l := by
  have := worth_from l (256 * 0 + c.toNat)
  rw [worth, List.foldl_cons, this, Nat.mul_zero, Nat.zero_add]
theorem hexD_mono : ∀ i j : Fin 16, (hexD i.val < hexD j.val) = (i.val < j.val) := by decide +kernel
theorem hexD_lt {i j : Nat} (hi : i < 16) (hj : j < 16) : hexD i < hexD j ↔ i < j := by
  have := hexD_mono ⟨i, hi⟩ ⟨j, hj⟩
  exact Iff.of_eq this
theorem hexL_lt : ∀ {l m : List UInt8}, l.length = m.length → (hexL l < hexL m ↔ worth l < worth m)
  | [], [], _ => by simp [hexL, worth]
  | [], c :: m, h => by simp at h
  | c :: l, [], h => by simp at h
  | c :: l, d :: m, h => by
    have hl : l.length = m.length := by simpa using h
    have ih := hexL_lt hl
    have hc := c.toNat_lt
    have hd := d.toNat_lt
    have wl := worth_lt l
    have wm := worth_lt m
    rw [worth_cons, worth_cons, ← hl]
    rw [← hl] at wm
    unfold hexL
    rw [List.flatMap_cons, List.flatMap_cons]
    show hexD (c.toNat / 16) :: hexD (c.toNat % 16) :: hexL l < hexD (d.toNat / 16) :: hexD (d.toNat % 16) :: hexL m ↔ _
    rw [List.cons_lt_cons_iff, List.cons_lt_cons_iff, ih, hexD_lt (by omega) (by omega), hexD_lt (by omega) (by omega)]
    obtain ⟨P, hP⟩ : ∃ P, P = 256 ^ l.length := ⟨_, rfl⟩
    rw [← hP] at wl wm ⊢
    have heq : ∀ i j, i < 16 → j < 16 → (hexD i = hexD j ↔ i = j) := fun i j hi hj => ⟨hexD_inj' hi hj, fun e => by rw [e]⟩
    rw [heq _ _ (by omega) (by omega), heq _ _ (by omega) (by omega)]
    rcases Nat.lt_trichotomy c.toNat d.toNat with h1 | h1 | h1
    · have h2 : (c.toNat + 1) * P ≤ d.toNat * P := Nat.mul_le_mul_right _ h1
      rw [Nat.add_mul] at h2
      constructor
      · intro _; omega
      · intro _; omega
    · rw [h1]
      constructor
      · intro h3
        rcases h3 with h3 | ⟨_, h3 | ⟨_, h3⟩⟩ <;> omega
      · intro h3
        exact .inr ⟨rfl, .inr ⟨rfl, by omega⟩⟩
    · have h2 : (d.toNat + 1) * P ≤ c.toNat * P := Nat.mul_le_mul_right _ h1
      rw [Nat.add_mul] at h2
      constructor
      · intro h3; omega
      · intro h3; omega
/-- A number's eight bytes. -/
def eightOf (n : Nat) : List UInt8 := (strOfNums (numsTo n 8)).data.toList
theorem eightOf_eq (n : Nat) : eightOf n = (List.range 8).map fun j => UInt8.ofNat (byteAt n j) := by
  unfold eightOf strOfNums numsTo
  simp [List.map_map]
theorem eightOf_len (n : Nat) : (eightOf n).length = 8 := by rw [eightOf_eq]; simp
theorem eightOf_worth (n : Nat) (hn : n < 18446744073709551616) : worth (eightOf n) = n := by
  rw [eightOf_eq]
  have e : (List.range 8).map (fun j => UInt8.ofNat (byteAt n j)) = [UInt8.ofNat (byteAt n 0), UInt8.ofNat (byteAt n 1), UInt8.ofNat (byteAt n 2), UInt8.ofNat (byteAt n 3), UInt8.ofNat (byteAt n 4), UInt8.ofNat (byteAt n 5), UInt8.ofNat (byteAt n 6), UInt8.ofNat (byteAt n 7)] := rfl
  rw [e]
  have b : ∀ j, (UInt8.ofNat (byteAt n j)).toNat = byteAt n j := fun j => by
    rw [UInt8.toNat_ofNat']
    have : byteAt n j < 256 := Nat.mod_lt _ (by decide)
    omega
  simp only [worth, List.foldl_cons, List.foldl_nil, b]
  unfold byteAt
  simp only [Nat.reduceSub, Nat.reduceMul, Nat.reducePow]
  omega
theorem keyOf_list (n : Nat) : (keyOf n).toList = hexL (eightOf n) := by
  rw [ByteArray.toList_eq]
  simp [keyOf, eightOf]
theorem keyOf_lt (a b : Nat) (ha : a < 18446744073709551616) (hb : b < 18446744073709551616) : (keyOf a).toList < (keyOf b).toList ↔ a < b := by
  rw [keyOf_list, keyOf_list, hexL_lt (by rw [eightOf_len, eightOf_len]), eightOf_worth a ha, eightOf_worth b hb]
theorem keyOf_size (n : Nat) : (keyOf n).size = 16 := by
  show (hexL (eightOf n)).toArray.size = 16
  rw [List.size_toArray, hexL_len, eightOf_len]
theorem number_key (a : Nat) (ha : a ≤ 1099511627776) {n : Int} {ok : Bool} (h : NumIs (keyOf a) n ok) : n = (a : Int) ∧ ok = true := by
  have hd : (keyOf a).data.toList = hexL (eightOf a) := by simp [keyOf, eightOf]
  have hw := eightOf_worth a (by omega)
  rcases h with ⟨bs, h1, h2, h3, h4, h5⟩ | ⟨h1, _⟩
  · rw [hd] at h1
    have := hexL_inj h1
    rw [← this, hw] at h4
    exact ⟨h4, h5⟩
  · have := h1 (eightOf a) hd (eightOf_len a)
    omega
end Go.Proofs.YtpniccllpfonfaaGreatDoor.St
