/- Plain facts about seals: a sum's bytes, a text and its sum behind it, and what fits. No program, no memory. -/
import Derived.Test.YtmkmkknnlckibaaCrcA
import Derived.Lib.Strings
import Derived.WideShapes
namespace Go.Proofs.Ytmkmkknnlckibaa.Pure
open Go.RowKit Go.Proofs.Ytmkmkknnlckibaa.Q Go.Proofs.YtmkmkknnlckibaaW.PrintWords Go.Proofs.YtmkmkknnlckibaaW.PrintLast Go.Proofs.YtmkmkknnlckibaaW.PrintMore

theorem ba_eq {a b : ByteArray} (h : a.data.toList = b.data.toList) : a = b := Go.WideShapes.bytes_inj h
theorem tl (a : ByteArray) : a.toList = a.data.toList := Go.Lib.toList_data a
theorem tl_eq {a b : ByteArray} (h : a.toList = b.toList) : a = b := by rw [tl, tl] at h; exact ba_eq h
theorem data_append (a b : ByteArray) : (a ++ b).data.toList = a.data.toList ++ b.data.toList := by
  rw [ByteArray.data_append, Array.toList_append]
theorem size_append (a b : ByteArray) : (a ++ b).size = a.size + b.size := ByteArray.size_append
theorem bys_append (a b : ByteArray) : bys (a ++ b) = bys a ++ bys b := by rw [bys, data_append, List.map_append]; rfl
theorem run_append (x : Nat) (l m : List Nat) : run x (l ++ m) = run (run x l) m := List.foldl_append

/-- A number's four bytes. -/
def byt (n : Nat) : ByteArray := strOfNums [(n : Int) % 256, (n : Int) / 256 % 256, (n : Int) / 65536 % 256, (n : Int) / 16777216 % 256]
theorem byt_size (n : Nat) : (byt n).size = 4 := by rw [byt, strOfNums_size]; rfl
theorem Bytes_f (n : Nat) : crc_Bytes.f (n : Int) = some (byt n) := rfl
theorem refBytes_f (n : Nat) (h : n < 4294967296) : bulletinref02_Bytes.f (n : Int) = some (byt n) := by
  unfold bulletinref02_Bytes.f byt
  have e1 : (Int.tmod (n : Int) 256) % 256 = (n : Int) % 256 := by rw [Int.tmod_eq_emod_of_nonneg (by omega)]; omega
  have e2 : ((Int.tdiv (n : Int) 256) % 4294967296) % 256 = (n : Int) / 256 % 256 := by rw [Int.tdiv_eq_ediv_of_nonneg (by omega)]; omega
  have e3 : ((Int.tdiv (n : Int) 65536) % 4294967296) % 256 = (n : Int) / 65536 % 256 := by rw [Int.tdiv_eq_ediv_of_nonneg (by omega)]; omega
  have e4 : ((Int.tdiv (n : Int) 16777216) % 4294967296) % 256 = (n : Int) / 16777216 % 256 := by rw [Int.tdiv_eq_ediv_of_nonneg (by omega)]; omega
  rw [e1, e2, e3, e4]

theorem bys_byt (n : Nat) : bys (byt n) = [n % 256, n / 256 % 256, n / 65536 % 256, n / 16777216 % 256] := by
  unfold bys byt
  rw [strOfNums_data]
  have e : ∀ m : Nat, m < 256 → (UInt8.ofNat ((m : Int)).toNat).toNat = m := by
    intro m hm
    rw [Int.toNat_natCast, UInt8.toNat_ofNat_of_lt' (by simpa [UInt8.size] using hm)]
  have e1 : ((n : Int) % 256) = ((n % 256 : Nat) : Int) := by omega
  have e2 : ((n : Int) / 256 % 256) = ((n / 256 % 256 : Nat) : Int) := by omega
  have e3 : ((n : Int) / 65536 % 256) = ((n / 65536 % 256 : Nat) : Int) := by omega
  have e4 : ((n : Int) / 16777216 % 256) = ((n / 16777216 % 256 : Nat) : Int) := by omega
  rw [e1, e2, e3, e4]
  simp only [List.map_cons, List.map_nil]
  rw [e _ (Nat.mod_lt _ (by decide)), e _ (Nat.mod_lt _ (by decide)), e _ (Nat.mod_lt _ (by decide)), e _ (Nat.mod_lt _ (by decide))]
theorem bys_inj {a b : ByteArray} (h : bys a = bys b) : a = b := by
  apply ba_eq
  have : ∀ (l m : List UInt8), l.map UInt8.toNat = m.map UInt8.toNat → l = m := by
    intro l
    induction l with
    | nil => intro m hm; cases m <;> simp_all
    | cons x l ih =>
      intro m hm
      cases m with
      | nil => simp at hm
      | cons y m =>
        simp only [List.map_cons, List.cons.injEq] at hm
        rw [UInt8.toNat_inj.1 hm.1, ih m hm.2]
  exact this _ _ h

/-- Bytes and their sum behind them. -/
def seal4 (s : ByteArray) : ByteArray := s ++ byt (addN 0 s)
theorem Seal_f (k : Nat) (s : ByteArray) (hs : s.size ≤ 140737488351232) (hk : s.size + 10 ≤ k) : crc_Seal.f k s = some (seal4 s) := by
  unfold crc_Seal.f
  rw [sum_f k s hs hk]
  simp only [Option.bind_some]
  rw [Bytes_f]
  simp only [Option.bind_some]
  rw [if_pos (by rw [byt_size]; omega)]
  rfl
theorem wrap_small {n : Nat} (h : n ≤ 140737488351236) (h4 : 4 ≤ n) : wrap64 ((n : Int) - 4) = ((n - 4 : Nat) : Int) := by unfold wrap64; omega
theorem extract_size (t : ByteArray) (m : Nat) (h : m ≤ t.size) : (t.extract 0 m).size = m := by
  rw [ByteArray.size_extract]; omega
theorem Fits_f (k : Nat) (t : ByteArray) (ht : t.size ≤ 140737488351236) (hk : t.size + 10 ≤ k) (h4 : 4 ≤ t.size) :
    crc_Fits.f k t = some (t.toList == (seal4 (t.extract 0 (t.size - 4))).toList) := by
  unfold crc_Fits.f
  have hz := extract_size t (t.size - 4) (by omega)
  rw [if_pos (by omega), wrap_small ht h4, if_pos (by omega), if_pos (by omega), Int.toNat_natCast, Seal_f k _ (by rw [hz]; omega) (by rw [hz]; omega)]
  rfl
theorem Fits_no (k : Nat) (t : ByteArray) (h4 : t.size < 4) : crc_Fits.f k t = some false := by
  unfold crc_Fits.f
  rw [if_neg (by omega)]
theorem split_at (t : ByteArray) (m : Nat) : t.data.toList = (t.extract 0 m).data.toList ++ (t.extract m t.size).data.toList := by
  rw [Go.Lib.extract_data, Go.Lib.extract_data, List.drop_zero, Nat.sub_zero]
  have e : (List.drop m t.data.toList).take (t.size - m) = List.drop m t.data.toList := by
    apply List.take_of_length_le
    rw [List.length_drop, data_length]
    exact Nat.le_refl _
  rw [e, List.take_append_drop]
theorem seal_size (s : ByteArray) : (seal4 s).size = s.size + 4 := by rw [seal4, size_append, byt_size]
theorem seal_head (s : ByteArray) : (seal4 s).extract 0 s.size = s := by
  apply ba_eq
  rw [Go.Lib.extract_data, seal4, data_append, List.drop_zero, Nat.sub_zero]
  exact List.take_left' (data_length s)
theorem Fits_seal (k : Nat) (s : ByteArray) (hs : s.size ≤ 140737488351232) (hk : s.size + 14 ≤ k) : crc_Fits.f k (seal4 s) = some true := by
  have hz := seal_size s
  rw [Fits_f k _ (by omega) (by omega) (by omega), show (seal4 s).size - 4 = s.size from by omega, seal_head]
  simp

theorem works_f (k : Nat) (hk : 100 ≤ k) : bulletinlaw02_works.f k = some true := by
  unfold bulletinlaw02_works.f
  have e1 : crc_Sum.f k (⟨#[49, 50, 51, 52, 53, 54, 55, 56, 57]⟩ : ByteArray) = some 3808858755 := by
    rw [sum_f k _ (by decide) (Nat.le_trans (by decide) hk)]
    have : addN 0 (⟨#[49, 50, 51, 52, 53, 54, 55, 56, 57]⟩ : ByteArray) = 3808858755 := by decide +kernel
    rw [this]
    rfl
  rw [e1]
  simp only [Option.bind_some]
  rw [if_pos trivial, show (16909060 : Int) = ((16909060 : Nat) : Int) from rfl, Bytes_f]
  simp only [Option.bind_some]
  have e2 : (byt 16909060).toList = ([4, 3, 2, 1] : List UInt8) := by rw [tl]; decide +kernel
  rw [if_pos e2, Seal_f k _ (by decide) (Nat.le_trans (by decide) hk)]
  simp only [Option.bind_some]
  rw [Fits_seal k _ (by decide) (Nat.le_trans (by decide) hk)]
  rfl

/-- The number of four bytes. -/
def num4 (s : ByteArray) : Nat := match bys s with
  | [a, b, c, d] => a + b * 256 + c * 65536 + d * 16777216
  | _ => 0
theorem or_join (x c i : Nat) (hx : x < 2 ^ i) (hc : c * 2 ^ i < 4294967296) (hx2 : x < 4294967296) : Go.bits .or .u32 (x : Int) ((c * 2 ^ i : Nat) : Int) = ((x + c * 2 ^ i : Nat) : Int) := by
  rw [u32_or_nat x (c * 2 ^ i) hx2 hc, Nat.or_comm, nat_join i (c * 2 ^ i) x (Nat.mul_mod_left _ _) hx, Nat.add_comm]
theorem shl_at (c i : Nat) (hc : c < 256) (hi : i ≤ 24) : shl .u32 ((c : Int) % 4294967296) ((i : Nat) : Int) = ((c * 2 ^ i : Nat) : Int) := by
  unfold shl
  have h1 : min ((i : Int)).toNat IntKind.u32.bits = i := by
    rw [Int.toNat_natCast]
    have : IntKind.u32.bits = 32 := rfl
    omega
  have h2 : c * 2 ^ i < 4294967296 := by
    have : 2 ^ i ≤ 2 ^ 24 := Nat.pow_le_pow_right (by decide) hi
    calc c * 2 ^ i ≤ 255 * 2 ^ 24 := Nat.mul_le_mul (by omega) this
      _ < 4294967296 := by decide
  rw [h1, IntKind.wrap_u32']
  have h3 : ((c : Int) % 4294967296) * 2 ^ i = ((c * 2 ^ i : Nat) : Int) := by
    rw [show ((c : Int) % 4294967296) = (c : Int) from by omega]
    simp
  rw [h3]
  omega
theorem Number_f (k : Nat) (s : ByteArray) (h : s.size = 4) (hk : 5 ≤ k) : crc_Number.f k s = some ((num4 s : Int), 0) := by
  obtain ⟨k, rfl⟩ : ∃ m, k = m + 5 := ⟨k - 5, by omega⟩
  obtain ⟨a, ha, hal, hda⟩ := bt_nat s 0 (by omega)
  obtain ⟨b, hb, hbl, hdb⟩ := bt_nat s 1 (by omega)
  obtain ⟨c, hc, hcl, hdc⟩ := bt_nat s 2 (by omega)
  obtain ⟨d, hd, hdl, hdd⟩ := bt_nat s 3 (by omega)
  have hd4 : (bys s).drop 4 = [] := List.drop_eq_nil_of_le (by rw [bys_length]; omega)
  have hall : bys s = [a, b, c, d] := by rw [← List.drop_zero (l := bys s), hda, hdb, hdc, hdd, hd4]
  have hn : num4 s = a + b * 256 + c * 65536 + d * 16777216 := by rw [num4, hall]
  unfold crc_Number.f
  have w0 : wrap64 ((0 : Int) + 1) = 1 := by unfold wrap64; omega
  have w1 : wrap64 ((1 : Int) + 1) = 2 := by unfold wrap64; omega
  have w2 : wrap64 ((2 : Int) + 1) = 3 := by unfold wrap64; omega
  have w3 : wrap64 ((3 : Int) + 1) = 4 := by unfold wrap64; omega
  have v0 : wrap64 ((8 : Int) * 0) = ((0 : Nat) : Int) := by unfold wrap64; omega
  have v1 : wrap64 ((8 : Int) * 1) = ((8 : Nat) : Int) := by unfold wrap64; omega
  have v2 : wrap64 ((8 : Int) * 2) = ((16 : Nat) : Int) := by unfold wrap64; omega
  have v3 : wrap64 ((8 : Int) * 3) = ((24 : Nat) : Int) := by unfold wrap64; omega
  rw [show ((0 : Nat) : Int) = 0 from rfl] at ha
  rw [show ((1 : Nat) : Int) = 1 from rfl] at hb
  rw [show ((2 : Nat) : Int) = 2 from rfl] at hc
  rw [show ((3 : Nat) : Int) = 3 from rfl] at hd
  have o0 := or_join 0 a 0 (by decide) (by omega) (by decide)
  have o1 := or_join (0 + a * 2 ^ 0) b 8 (by omega) (by omega) (by omega)
  have o2 := or_join (0 + a * 2 ^ 0 + b * 2 ^ 8) c 16 (by omega) (by omega) (by omega)
  have o3 := or_join (0 + a * 2 ^ 0 + b * 2 ^ 8 + c * 2 ^ 16) d 24 (by omega) (by omega) (by omega)
  rw [show ((0 : Nat) : Int) = 0 from rfl] at o0
  rw [h, if_pos (by decide), crc_Number.l0, if_pos (by decide), if_pos (by decide), if_pos (by omega), v0, if_pos (by decide), ha, shl_at a 0 hal (by decide), o0, w0]
  rw [crc_Number.l0, if_pos (by decide), if_pos (by decide), if_pos (by omega), v1, if_pos (by decide), hb, shl_at b 8 hbl (by decide), o1, w1]
  rw [crc_Number.l0, if_pos (by decide), if_pos (by decide), if_pos (by omega), v2, if_pos (by decide), hc, shl_at c 16 hcl (by decide), o2, w2]
  rw [crc_Number.l0, if_pos (by decide), if_pos (by decide), if_pos (by omega), v3, if_pos (by decide), hd, shl_at d 24 hdl (by decide), o3, w3]
  rw [crc_Number.l0, if_neg (by decide), hn]
  congr 3
  omega
theorem Number_no (k : Nat) (s : ByteArray) (h : s.size ≠ 4) : crc_Number.f k s = some (0, 4) := by
  unfold crc_Number.f
  rw [if_neg (by omega)]
theorem num_byt (n : Nat) (h : n < 4294967296) : num4 (byt n) = n := by
  rw [num4, bys_byt]
  show n % 256 + n / 256 % 256 * 256 + n / 65536 % 256 * 65536 + n / 16777216 % 256 * 16777216 = n
  omega
theorem num_lt (s : ByteArray) : num4 s < 4294967296 := by
  have hb := bys_lt s
  unfold num4
  split
  · rename_i a b c d h
    have h1 := hb a (by rw [h]; simp)
    have h2 := hb b (by rw [h]; simp)
    have h3 := hb c (by rw [h]; simp)
    have h4 := hb d (by rw [h]; simp)
    omega
  · decide
theorem byt_num (s : ByteArray) (h : s.size = 4) : byt (num4 s) = s := by
  apply bys_inj
  rw [bys_byt]
  have hb := bys_lt s
  have hl := bys_length s
  rw [h] at hl
  obtain ⟨a, b, c, d, hm⟩ : ∃ a b c d, bys s = [a, b, c, d] := by
    match hm : bys s, hl with
    | [a, b, c, d], _ => exact ⟨a, b, c, d, rfl⟩
  have h1 := hb a (by rw [hm]; simp)
  have h2 := hb b (by rw [hm]; simp)
  have h3 := hb c (by rw [hm]; simp)
  have h4 := hb d (by rw [hm]; simp)
  have hn : num4 s = a + b * 256 + c * 65536 + d * 16777216 := by rw [num4, hm]
  rw [hn, hm]
  have e1 : (a + b * 256 + c * 65536 + d * 16777216) % 256 = a := by omega
  have e2 : (a + b * 256 + c * 65536 + d * 16777216) / 256 % 256 = b := by omega
  have e3 : (a + b * 256 + c * 65536 + d * 16777216) / 65536 % 256 = c := by omega
  have e4 : (a + b * 256 + c * 65536 + d * 16777216) / 16777216 % 256 = d := by omega
  rw [e1, e2, e3, e4]
theorem not_not (x : Nat) : 4294967295 ^^^ (4294967295 ^^^ x) = x := by
  rw [← Nat.xor_assoc, Nat.xor_self, Nat.zero_xor]
theorem add_add (a : Nat) (s t : ByteArray) : addN (addN a s) t = addN a (s ++ t) := by
  unfold addN
  rw [not_not, bys_append, run_append]
theorem add_nil (a : Nat) : addN a (⟨#[]⟩ : ByteArray) = a := by
  unfold addN
  exact not_not a

end Go.Proofs.Ytmkmkknnlckibaa.Pure
