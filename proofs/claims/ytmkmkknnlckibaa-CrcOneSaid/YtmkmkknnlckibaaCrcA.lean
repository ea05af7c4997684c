/- Plain facts about the sums of layer 2: what the printed loops of crc and of its reference come to, as folds over numbers. No program, no memory. -/
import Derived.Test.YtmkmkknnlckibaaQ1
import Derived.Laws.BitsAllLaws
namespace Go.Proofs.Ytmkmkknnlckibaa.Pure
open Go.RowKit Go.Proofs.Ytmkmkknnlckibaa.Q Go.Proofs.YtmkmkknnlckibaaW.PrintWords Go.Proofs.YtmkmkknnlckibaaW.PrintLast Go.Proofs.YtmkmkknnlckibaaW.PrintMore

/-- One bit's step. -/
def bst (x : Nat) : Nat := if x % 2 = 1 then (x / 2) ^^^ 2197175160 else x / 2
def bstN : Nat → Nat → Nat
  | 0, x => x
  | n + 1, x => bstN n (bst x)
/-- A byte's step. -/
def cst (x c : Nat) : Nat := bstN 8 (x ^^^ c)
def run (x : Nat) (l : List Nat) : Nat := l.foldl cst x
def bys (s : ByteArray) : List Nat := s.data.toList.map UInt8.toNat

theorem xor32 {a b : Nat} (ha : a < 4294967296) (hb : b < 4294967296) : a ^^^ b < 4294967296 := Nat.xor_lt_two_pow (n := 32) ha hb
theorem bst_lt {x : Nat} (h : x < 4294967296) : bst x < 4294967296 := by
  unfold bst
  split
  · exact xor32 (by omega) (by decide)
  · omega
theorem bstN_lt : ∀ (n : Nat) {x : Nat}, x < 4294967296 → bstN n x < 4294967296
  | 0, _, h => h
  | n + 1, _, h => bstN_lt n (bst_lt h)
theorem cst_lt {x c : Nat} (h : x < 4294967296) (hc : c < 4294967296) : cst x c < 4294967296 := bstN_lt 8 (xor32 h hc)
theorem bys_lt (s : ByteArray) : ∀ c ∈ bys s, c < 256 := by
  intro c hc
  obtain ⟨u, _, rfl⟩ := List.mem_map.1 hc
  exact u.toNat_lt
theorem bys_length (s : ByteArray) : (bys s).length = s.size := by rw [bys, List.length_map]; exact data_length s
theorem run_lt : ∀ (l : List Nat) {x : Nat}, x < 4294967296 → (∀ c ∈ l, c < 256) → run x l < 4294967296
  | [], _, h, _ => h
  | c :: l, _, h, hl => run_lt l (cst_lt h (Nat.lt_trans (hl c List.mem_cons_self) (by decide))) (fun d hd => hl d (List.mem_cons_of_mem _ hd))
theorem bt_nat (s : ByteArray) (i : Nat) (h : i < s.size) : ∃ c : Nat, bt s (i : Int) = (c : Int) ∧ c < 256 ∧ (bys s).drop i = c :: (bys s).drop (i + 1) := by
  have hl : i < (bys s).length := by rw [bys_length]; exact h
  refine ⟨(bys s)[i], ?_, bys_lt s _ (List.getElem_mem hl), (List.drop_eq_getElem_cons hl)⟩
  have := bt_at s (i : Int) (by simpa using h)
  rw [← this]
  simp [bys, ByteArray.getElem_eq_getElem_data]

/-! crc's own -/
theorem step_l0 : ∀ (d : Nat) (k : Nat) (x : Nat), d ≤ 8 → d < k → x < 4294967296 → crc_step.l0 k (x : Int) (8 - d : Int) = some ((bstN d x : Nat) : Int)
  | 0, k, x, _, hk, _ => by
    obtain ⟨k, rfl⟩ : ∃ m, k = m + 1 := ⟨k - 1, by omega⟩
    simp only [crc_step.l0]
    rw [if_neg (by omega)]
    rfl
  | d + 1, k, x, hd, hk, hx => by
    obtain ⟨k, rfl⟩ : ∃ m, k = m + 1 := ⟨k - 1, by omega⟩
    simp only [crc_step.l0]
    rw [if_pos (by omega)]
    have hw : wrap64 ((8 : Int) - ((d + 1 : Nat) : Int) + 1) = 8 - (d : Int) := by unfold wrap64; omega
    have hand : Go.bits .and .u32 (x : Int) 1 = ((x % 2 : Nat) : Int) := by
      have := u32_and_nat x 1 hx (by decide)
      rw [nat_mask1] at this
      exact this
    rw [hw, hand]
    have e2 : ((x : Int) / 2) = ((x / 2 : Nat) : Int) := by omega
    have ih := step_l0 d k (bst x) (by omega) (by omega) (bst_lt hx)
    by_cases h1 : x % 2 = 1
    · rw [if_pos (by omega), e2]
      have := u32_xor_nat (x / 2) 2197175160 (by omega) (by decide)
      have e3 : Go.bits .xor .u32 ((x / 2 : Nat) : Int) 2197175160 = ((bst x : Nat) : Int) := by
        unfold bst; rw [if_pos h1]; exact this
      rw [e3, ih]
      rfl
    · rw [if_neg (by omega), e2]
      have e3 : x / 2 = bst x := by unfold bst; rw [if_neg h1]
      rw [e3, ih]
      rfl

theorem step_f (k x c : Nat) (hk : 9 ≤ k) (hx : x < 4294967296) (hc : c < 256) : crc_step.f k (x : Int) (c : Int) = some ((cst x c : Nat) : Int) := by
  unfold crc_step.f
  have e : ((c : Int) % 4294967296) = (c : Int) := by omega
  rw [e, u32_xor_nat x c hx (by omega)]
  have := step_l0 8 k (x ^^^ c) (by omega) (by omega) (xor32 hx (by omega))
  rw [show ((8 : Int) - ((8 : Nat) : Int)) = 0 from by omega] at this
  exact this

theorem not32 (x : Nat) (hx : x < 4294967296) : Go.bits .xor .u32 Go.IntKind.u32.max (x : Int) = ((4294967295 ^^^ x : Nat) : Int) := by
  have e : Go.IntKind.u32.max = ((4294967295 : Nat) : Int) := by decide
  rw [e, u32_xor_nat _ x (by decide) hx]

theorem add_l0 (s : ByteArray) (hs : s.size ≤ 140737488351232) : ∀ (d i k x : Nat), i + d = s.size → d + 10 ≤ k → x < 4294967296 →
    crc_Add.l0 k s (x : Int) (s.size : Int) (i : Int) = some ((4294967295 ^^^ run x ((bys s).drop i) : Nat) : Int)
  | 0, i, k, x, hi, hk, hx => by
    obtain ⟨k, rfl⟩ : ∃ m, k = m + 1 := ⟨k - 1, by omega⟩
    simp only [crc_Add.l0]
    rw [if_neg (by omega), not32 x hx, List.drop_eq_nil_of_le (by rw [bys_length]; omega)]
    rfl
  | d + 1, i, k, x, hi, hk, hx => by
    obtain ⟨k, rfl⟩ : ∃ m, k = m + 1 := ⟨k - 1, by omega⟩
    obtain ⟨c, hc, hcl, hdr⟩ := bt_nat s i (by omega)
    have hw : wrap64 ((i : Int) + 1) = ((i + 1 : Nat) : Int) := by unfold wrap64; omega
    simp only [crc_Add.l0]
    rw [if_pos (by omega), if_pos (by omega), if_pos (by omega), hc, step_f k x c (by omega) hx hcl, hw]
    simp only [Option.bind_some]
    rw [add_l0 s hs d (i + 1) k (cst x c) (by omega) (by omega) (cst_lt hx (by omega)), hdr]
    rfl

/-- The sum as the law's folds have it. -/
def addN (a : Nat) (s : ByteArray) : Nat := 4294967295 ^^^ run (4294967295 ^^^ a) (bys s)

theorem add_f (k a : Nat) (s : ByteArray) (hs : s.size ≤ 140737488351232) (hk : s.size + 10 ≤ k) (ha : a < 4294967296) : crc_Add.f k (a : Int) s = some ((addN a s : Nat) : Int) := by
  unfold crc_Add.f
  rw [not32 a ha]
  exact add_l0 s hs s.size 0 k _ (by omega) hk (xor32 (by decide) ha)

theorem sum_f (k : Nat) (s : ByteArray) (hs : s.size ≤ 140737488351232) (hk : s.size + 10 ≤ k) : crc_Sum.f k s = some ((addN 0 s : Nat) : Int) := by
  unfold crc_Sum.f
  have := add_f k 0 s hs hk (by decide)
  rw [show ((0 : Nat) : Int) = (0 : Int) from rfl] at this
  rw [this]
  rfl

theorem addN_lt (a : Nat) (s : ByteArray) (ha : a < 4294967296) : addN a s < 4294967296 := xor32 (by decide) (run_lt _ (xor32 (by decide) ha) (bys_lt s))

/-! the reference's -/
theorem bst_xor (x c : Nat) : bst (x ^^^ c) = (if (x + c) % 2 = 1 then (x / 2) ^^^ 2197175160 else x / 2) ^^^ (c / 2) := by
  have hm : (x ^^^ c) % 2 = (x + c) % 2 := by
    have h1 := Nat.xor_mod_two_pow (a := x) (b := c) (n := 1)
    rw [Nat.pow_one] at h1
    rw [h1]
    have hx : x % 2 = 0 ∨ x % 2 = 1 := by omega
    have hc : c % 2 = 0 ∨ c % 2 = 1 := by omega
    rcases hx with hx | hx <;> rcases hc with hc | hc <;> rw [hx, hc, Nat.add_mod, hx, hc] <;> decide
  have hd : (x ^^^ c) / 2 = (x / 2) ^^^ (c / 2) := by
    have := Nat.shiftRight_xor_distrib (a := x) (b := c) (i := 1)
    simpa [Nat.shiftRight_eq_div_pow] using this
  unfold bst
  rw [hm, hd]
  split
  · rw [Nat.xor_assoc, Nat.xor_comm (c / 2), ← Nat.xor_assoc]
  · rfl

theorem ref_l1 (s : ByteArray) (i : Int) : ∀ (d k x c : Nat), d ≤ 8 → c < 2 ^ d → x < 4294967296 →
    bulletinref02_Sum.l1 (k + d + 1) s (x : Int) i (c : Int) (8 - d : Int) = bulletinref02_Sum.l0 k s ((bstN d (x ^^^ c) : Nat) : Int) (wrap64 (i + 1))
  | 0, k, x, c, _, hc, hx => by
    obtain rfl : c = 0 := by simpa using hc
    simp only [bulletinref02_Sum.l1]
    rw [if_neg (by omega)]
    simp [bstN]
  | d + 1, k, x, c, hd, hc, hx => by
    have hc2 : c < 256 := Nat.lt_of_lt_of_le hc (by have := Nat.pow_le_pow_right (n := 2) (by decide) hd; simpa using this)
    obtain ⟨m, hm⟩ : ∃ m, m = k + d + 1 := ⟨_, rfl⟩
    rw [show k + (d + 1) + 1 = m + 1 from by omega]
    simp only [bulletinref02_Sum.l1]
    rw [if_pos (by omega)]
    have hw : wrap64 ((8 : Int) - ((d + 1 : Nat) : Int) + 1) = 8 - (d : Int) := by unfold wrap64; omega
    have hb : ((((x : Int) + ((c : Int) % 4294967296)) % 4294967296) % 2 = 1) ↔ (x + c) % 2 = 1 := by omega
    have e1 : (Int.tdiv (x : Int) 2) % 4294967296 = ((x / 2 : Nat) : Int) := by
      rw [Int.tdiv_eq_ediv_of_nonneg (by omega)]; omega
    have e2 : (Int.tdiv (c : Int) 2) % 256 = ((c / 2 : Nat) : Int) := by
      rw [Int.tdiv_eq_ediv_of_nonneg (by omega)]; omega
    have hc' : c / 2 < 2 ^ d := by rw [Nat.pow_succ] at hc; omega
    rw [hw, e1, e2]
    have hx2 := u32_xor_nat (x / 2) 2197175160 (by omega) (by decide)
    have hbx := bst_xor x c
    by_cases h1 : (x + c) % 2 = 1
    · rw [if_pos (hb.2 h1)]
      rw [if_pos h1] at hbx
      rw [show Go.bits .xor .u32 ((x / 2 : Nat) : Int) 2197175160 = (((x / 2) ^^^ 2197175160 : Nat) : Int) from hx2]
      rw [hm, ref_l1 s i d k ((x / 2) ^^^ 2197175160) (c / 2) (by omega) hc' (xor32 (by omega) (by decide)), ← hbx]
      rfl
    · rw [if_neg (fun h => h1 (hb.1 h))]
      rw [if_neg h1] at hbx
      rw [hm, ref_l1 s i d k (x / 2) (c / 2) (by omega) hc' (by omega), ← hbx]
      rfl

theorem ref_l0 (s : ByteArray) (hs : s.size ≤ 140737488351232) : ∀ (d i k x : Nat), i + d = s.size → x < 4294967296 →
    bulletinref02_Sum.l0 (k + 10 * d + 1) s (x : Int) (i : Int) = some ((4294967295 - run x ((bys s).drop i) : Nat) : Int)
  | 0, i, k, x, hi, hx => by
    simp only [bulletinref02_Sum.l0]
    rw [if_neg (by omega), List.drop_eq_nil_of_le (by rw [bys_length]; omega)]
    have e : run x [] = x := rfl
    rw [e]
    congr 1
    omega
  | d + 1, i, k, x, hi, hx => by
    obtain ⟨c, hc, hcl, hdr⟩ := bt_nat s i (by omega)
    have hw : wrap64 ((i : Int) + 1) = ((i + 1 : Nat) : Int) := by unfold wrap64; omega
    rw [show k + 10 * (d + 1) + 1 = ((k + 10 * d + 1) + 8 + 1) + 1 from by omega]
    simp only [bulletinref02_Sum.l0]
    rw [if_pos (by omega), if_pos (by omega), hc]
    have h1 := ref_l1 s (i : Int) 8 (k + 10 * d + 1) x c (by omega) hcl hx
    rw [show ((8 : Int) - ((8 : Nat) : Int)) = 0 from by omega] at h1
    rw [h1, hw]
    have ih := ref_l0 s hs d (i + 1) k (bstN 8 (x ^^^ c)) (by omega) (bstN_lt 8 (xor32 hx (by omega)))
    rw [ih, hdr]
    rfl

theorem sub_xor {x : Nat} (h : x < 4294967296) : 4294967295 - x = 4294967295 ^^^ x := by
  apply Nat.eq_of_testBit_eq
  intro i
  have h3 := Nat.testBit_two_pow_sub_succ (x := x) (n := 32) h i
  rw [show 4294967295 - x = 2 ^ 32 - (x + 1) from by omega, h3, Nat.testBit_xor, show (4294967295 : Nat) = 2 ^ 32 - 1 from rfl, Nat.testBit_two_pow_sub_one]
  by_cases hi : i < 32
  · simp [hi]
  · have : x.testBit i = false := Nat.testBit_lt_two_pow (Nat.lt_of_lt_of_le h (Nat.pow_le_pow_right (n := 2) (i := 32) (j := i) (by decide) (by omega)))
    simp [hi, this]

theorem ref_f (k a : Nat) (s : ByteArray) (hs : s.size ≤ 140737488351232) (hk : 10 * s.size + 1 ≤ k) (ha : a < 4294967296) : bulletinref02_Sum.f k (a : Int) s = some ((addN a s : Nat) : Int) := by
  unfold bulletinref02_Sum.f
  obtain ⟨j, rfl⟩ : ∃ j, k = j + 10 * s.size + 1 := ⟨k - 10 * s.size - 1, by omega⟩
  have e : ((4294967295 - (a : Int)) % 4294967296) = ((4294967295 - a : Nat) : Int) := by omega
  have h := ref_l0 s hs s.size 0 j (4294967295 - a) (by omega) (by omega)
  rw [e, show (0 : Int) = ((0 : Nat) : Int) from rfl, h, sub_xor ha, sub_xor (run_lt _ (xor32 (by decide) ha) (fun c hc => bys_lt s c (List.mem_of_mem_drop hc)))]
  rfl

end Go.Proofs.Ytmkmkknnlckibaa.Pure
