/- Plain facts: a text of bytes with its sum behind it, in which one byte was turned, does not fit. No program, no memory. -/
import Derived.Test.YtmkmkknnlckibaaCrcB
namespace Go.Proofs.Ytmkmkknnlckibaa.Pure
open Go.RowKit Go.Proofs.Ytmkmkknnlckibaa.Q Go.Proofs.YtmkmkknnlckibaaW.PrintWords Go.Proofs.YtmkmkknnlckibaaW.PrintLast Go.Proofs.YtmkmkknnlckibaaW.PrintMore

def ubst (y : Nat) : Nat := if 2147483648 ≤ y then (y ^^^ 2197175160) * 2 + 1 else y * 2
theorem ubst_bst {x : Nat} (h : x < 4294967296) : ubst (bst x) = x := by
  unfold bst
  split
  · rename_i h1
    have ht : ((x / 2) ^^^ 2197175160).testBit 31 = true := by
      rw [Nat.testBit_xor]
      have h2 : (x / 2).testBit 31 = false := Nat.testBit_lt_two_pow (show x / 2 < 2 ^ 31 by omega)
      have h3 : (2197175160 : Nat).testBit 31 = true := by decide
      rw [h2, h3]
      rfl
    have hge : 2 ^ 31 ≤ (x / 2) ^^^ 2197175160 := Nat.ge_two_pow_of_testBit ht
    unfold ubst
    rw [if_pos (show 2147483648 ≤ (x / 2) ^^^ 2197175160 from hge), Nat.xor_assoc, Nat.xor_self, Nat.xor_zero]
    omega
  · unfold ubst
    rw [if_neg (by omega)]
    omega
theorem bst_inj {x y : Nat} (hx : x < 4294967296) (hy : y < 4294967296) (h : bst x = bst y) : x = y := by rw [← ubst_bst hx, h, ubst_bst hy]
theorem bstN_inj : ∀ (n : Nat) {x y : Nat}, x < 4294967296 → y < 4294967296 → bstN n x = bstN n y → x = y
  | 0, _, _, _, _, h => h
  | n + 1, _, _, hx, hy, h => bst_inj hx hy (bstN_inj n (bst_lt hx) (bst_lt hy) h)
theorem xor_left {a b c : Nat} (h : a ^^^ c = b ^^^ c) : a = b := by
  have := congrArg (fun z => z ^^^ c) h
  simpa [Nat.xor_assoc] using this
theorem xor_right {a b c : Nat} (h : c ^^^ a = c ^^^ b) : a = b := by rw [Nat.xor_comm c a, Nat.xor_comm c b] at h; exact xor_left h
theorem cst_left {x y c : Nat} (hx : x < 4294967296) (hy : y < 4294967296) (hc : c < 256) (h : cst x c = cst y c) : x = y :=
  xor_left (bstN_inj 8 (xor32 hx (by omega)) (xor32 hy (by omega)) h)
theorem cst_right {x c d : Nat} (hx : x < 4294967296) (hc : c < 256) (hd : d < 256) (h : cst x c = cst x d) : c = d :=
  xor_right (bstN_inj 8 (xor32 hx (by omega)) (xor32 hx (by omega)) h)
theorem run_left : ∀ (l : List Nat) {x y : Nat}, x < 4294967296 → y < 4294967296 → (∀ c ∈ l, c < 256) → run x l = run y l → x = y
  | [], _, _, _, _, _, h => h
  | c :: l, _, _, hx, hy, hl, h =>
    have hc : c < 256 := hl c List.mem_cons_self
    cst_left hx hy hc (run_left l (cst_lt hx (by omega)) (cst_lt hy (by omega)) (fun d hd => hl d (List.mem_cons_of_mem _ hd)) h)
theorem run_change (l m : List Nat) {x c d : Nat} (hx : x < 4294967296) (hl : ∀ c ∈ l, c < 256) (hm : ∀ c ∈ m, c < 256) (hc : c < 256) (hd : d < 256) (h : run x (l ++ c :: m) = run x (l ++ d :: m)) : c = d := by
  rw [run_append, run_append] at h
  have hr := run_lt l hx hl
  have h2 : run (cst (run x l) c) m = run (cst (run x l) d) m := h
  exact cst_right hr hc hd (run_left m (cst_lt hr (by omega)) (cst_lt hr (by omega)) hm h2)

theorem bys_strOfNums (l : List Nat) (h : ∀ c ∈ l, c < 256) : bys (strOfNums (l.map fun c : Nat => (c : Int))) = l := by
  unfold bys
  rw [strOfNums_data, List.map_map, List.map_map]
  have : ∀ m : List Nat, (∀ c ∈ m, c < 256) → m.map (UInt8.toNat ∘ (fun n : Int => UInt8.ofNat n.toNat) ∘ fun c : Nat => (c : Int)) = m := by
    intro m
    induction m with
    | nil => intro _; rfl
    | cons c m ih =>
      intro hm
      rw [List.map_cons, ih (fun d hd => hm d (List.mem_cons_of_mem _ hd))]
      congr 1
      have hc := hm c List.mem_cons_self
      show (UInt8.ofNat ((c : Int)).toNat).toNat = c
      rw [Int.toNat_natCast, UInt8.toNat_ofNat_of_lt' (by simpa [UInt8.size] using hc)]
  exact this l h
theorem bytesOf_bys (s : ByteArray) : bytesOf s = (bys s).map fun c : Nat => (c : Int) := by
  unfold bytesOf bys
  rw [List.map_map]
  rfl

/-- What was sealed, a byte turned, doesn't fit. -/
theorem turned (s t : ByteArray) (k v : Nat) (hk : k < s.size + 4) (hv : v < 256) (ht : bys t = (bys (seal4 s)).set k v) (hne : (bys (seal4 s))[k]? ≠ some v) : t ≠ seal4 (t.extract 0 s.size) := by
  intro h
  have hz : bys (seal4 s) = bys s ++ bys (byt (addN 0 s)) := by rw [seal4, bys_append]
  have hl := bys_length s
  have hu : bys (t.extract 0 s.size) = (bys t).take s.size := by
    unfold bys
    rw [Go.Lib.extract_data, List.drop_zero, Nat.sub_zero, List.map_take]
  have h2 : bys t = (bys t).take s.size ++ bys (byt (addN 0 (t.extract 0 s.size))) := by
    rw [← hu, ← bys_append]
    exact congrArg bys h
  have hb4 : (bys (byt (addN 0 s))).length = 4 := by rw [bys_length, byt_size]
  rw [ht, hz] at h2
  rw [hz] at hne
  by_cases hlt : k < s.size
  · have e1 : (bys s ++ bys (byt (addN 0 s))).set k v = (bys s).set k v ++ bys (byt (addN 0 s)) := by
      rw [List.set_append, if_pos (by omega)]
    have e2 : ((bys s).set k v ++ bys (byt (addN 0 s))).take s.size = (bys s).set k v := List.take_left' (by rw [List.length_set, hl])
    rw [e1, e2] at h2
    have h3 := bys_inj (List.append_cancel_left h2)
    have h4 : addN 0 s = addN 0 (t.extract 0 s.size) := by
      rw [← num_byt _ (addN_lt 0 s (by decide)), h3, num_byt _ (addN_lt 0 _ (by decide))]
    have h5 : run 4294967295 (bys s) = run 4294967295 ((bys s).set k v) := by
      have hq : bys (t.extract 0 s.size) = (bys s).set k v := by rw [hu, ht, hz, e1, e2]
      have := xor_right h4
      rw [hq] at this
      exact this
    have hkl : k < (bys s).length := by omega
    have e3 : (bys s).set k v = (bys s).take k ++ v :: (bys s).drop (k + 1) := List.set_eq_take_append_cons_drop.trans (if_pos hkl)
    have e4 : bys s = (bys s).take k ++ (bys s)[k] :: (bys s).drop (k + 1) := by rw [← List.drop_eq_getElem_cons hkl, List.take_append_drop]
    rw [e3] at h5
    have h6 : run 4294967295 ((bys s).take k ++ (bys s)[k] :: (bys s).drop (k + 1)) = run 4294967295 ((bys s).take k ++ v :: (bys s).drop (k + 1)) := by rw [← e4]; exact h5
    have h7 := run_change _ _ (by decide) (fun c hc => bys_lt s c (List.mem_of_mem_take hc)) (fun c hc => bys_lt s c (List.mem_of_mem_drop hc)) (bys_lt s _ (List.getElem_mem hkl)) hv h6
    apply hne
    rw [List.getElem?_append_left hkl, List.getElem?_eq_getElem hkl, h7]
  · have e1 : (bys s ++ bys (byt (addN 0 s))).set k v = bys s ++ (bys (byt (addN 0 s))).set (k - s.size) v := by
      rw [List.set_append, if_neg (by omega), hl]
    have e2 : (bys s ++ (bys (byt (addN 0 s))).set (k - s.size) v).take s.size = bys s := List.take_left' hl
    rw [e1, e2] at h2
    have hus : t.extract 0 s.size = s := by
      apply bys_inj
      rw [hu, ht, hz, e1, e2]
    rw [hus] at h2
    have h3 := List.append_cancel_left h2
    have hkl : k - s.size < (bys (byt (addN 0 s))).length := by omega
    apply hne
    rw [List.getElem?_append_right (by omega), hl, ← h3, List.getElem?_set_self hkl]

theorem xor_ne {c m : Nat} (hm : m ≠ 0) : c ^^^ m ≠ c := by
  intro h
  apply hm
  have := congrArg (fun z => c ^^^ z) h
  simpa [← Nat.xor_assoc] using this

/-- The sealed text with one bit turned: Fits says no. -/
theorem Fits_turned (k : Nat) (s t : ByteArray) (j m : Nat) (hs : s.size ≤ 1000) (hk : 20000 ≤ k) (hj : j < s.size + 4) (hm : m < 256) (hm0 : m ≠ 0)
    (ht : bys t = (bys (seal4 s)).set j ((bys (seal4 s)).getD j 0 ^^^ m)) : crc_Fits.f k t = some false := by
  have hl : (bys (seal4 s)).length = s.size + 4 := by rw [bys_length, seal_size]
  have hts : t.size = s.size + 4 := by rw [← bys_length, ht, List.length_set, hl]
  have hget : (bys (seal4 s)).getD j 0 = (bys (seal4 s))[j]'(by omega) := by rw [List.getD_eq_getElem?_getD, List.getElem?_eq_getElem (by omega)]; rfl
  have hc : (bys (seal4 s))[j]'(by omega) < 256 := bys_lt _ _ (List.getElem_mem _)
  rw [Fits_f k t (by omega) (by omega) (by omega), show t.size - 4 = s.size from by omega]
  congr 1
  rw [beq_eq_false_iff_ne]
  intro he
  refine turned s t j _ hj (Nat.xor_lt_two_pow (n := 8) (by rw [hget]; exact hc) hm) ht ?_ (tl_eq he)
  rw [List.getElem?_eq_getElem (by omega), hget]
  intro h
  exact xor_ne hm0 (Option.some.inj h).symm

end Go.Proofs.Ytmkmkknnlckibaa.Pure
