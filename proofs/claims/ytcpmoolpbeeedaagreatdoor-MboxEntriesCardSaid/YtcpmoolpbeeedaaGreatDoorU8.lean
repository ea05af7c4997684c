import Derived.Test.YtcpmoolpbeeedaaGreatDoorAD
import Derived.Test.YtcpmoolpbeeedaaGreatDoorQ20
import Derived.Test.YtcpmoolpbeeedaaGreatDoorQ21
import Derived.Test.YtcpmoolpbeeedaaGreatDoorQ4
import Derived.Test.YtcpmoolpbeeedaaGreatDoorQ5
import Derived.Test.YtcpmoolpbeeedaaGreatDoorUA
import Derived.Test.YtcpmoolpbeeedaaGreatDoorUN
namespace Go.Proofs.YtcpmoolpbeeedaaGreatDoor.Q
open Go.RowKit Go.Proofs.YtcpmoolpbeeedaaGreatDoorW.PrintWords Go.Proofs.YtcpmoolpbeeedaaGreatDoorW.PrintLast Go.Proofs.YtcpmoolpbeeedaaGreatDoorW.PrintMore
theorem atomic_all : (List.range 256).all (fun n => decide (lex_atomic.f (n : Int) = bulletinref12_atomic.f 40 (n : Int))) = true := by decide +kernel
theorem text_all : (List.range 256).all (fun n => decide (lex_text.f (n : Int) = bulletinref12_Text.f (n : Int))) = true := by decide +kernel
theorem bt_byte (x : ByteArray) (i : Nat) (h : i < x.size) : ∃ n : Nat, n < 256 ∧ bt x (i : Int) = (n : Int) := by
  obtain ⟨l, rfl⟩ := Ad.list_eq x
  rw [Ad.size_list] at h
  exact ⟨(l[i]'h).toNat, UInt8.toNat_lt _, Ad.bt_list l i h⟩
theorem atomic_eq (x : ByteArray) (i : Nat) (h : i < x.size) (k : Nat) (hk : 40 ≤ k) : bulletinref12_atomic.f k (bt x (i : Int)) = lex_atomic.f (bt x (i : Int)) := by
  obtain ⟨n, hn, e⟩ := bt_byte x i h
  rw [e]
  have := of_decide_eq_true (List.all_eq_true.1 atomic_all n (List.mem_range.2 hn))
  obtain ⟨b, hb⟩ := Ad.atomic_t (n : Int)
  rw [hb] at this ⊢
  exact up_of (bulletinref12_atomic.mono _) this.symm k hk
theorem textb_eq (x : ByteArray) (i : Nat) (h : i < x.size) : bulletinref12_Text.f (bt x (i : Int)) = lex_text.f (bt x (i : Int)) := by
  obtain ⟨n, hn, e⟩ := bt_byte x i h
  rw [e]
  exact (of_decide_eq_true (List.all_eq_true.1 text_all n (List.mem_range.2 hn))).symm
theorem isAtom_el (x : ByteArray) (hx : x.size < 1000000000) (h0 : x.toList ≠ ([] : List UInt8)) : ∀ (n k i : Nat), i + n = x.size → n + 40 < k → bulletinref12_IsAtom.l0 k x (i : Int) = lex_IsAtom.l0 k x (x.size : Int) (i : Int)
  | 0, k, i, hn, hk => by
    obtain ⟨k, rfl⟩ : ∃ j, k = j + 1 := ⟨k - 1, by omega⟩
    unfold lex_IsAtom.l0 bulletinref12_IsAtom.l0
    rw [if_neg (by omega), if_neg (by omega)]
    congr 1
    exact (bne_iff_ne.2 h0).symm
  | n + 1, k, i, hn, hk => by
    obtain ⟨k, rfl⟩ : ∃ j, k = j + 1 := ⟨k - 1, by omega⟩
    unfold lex_IsAtom.l0 bulletinref12_IsAtom.l0
    rw [if_pos (by omega), if_pos (by omega), if_pos (by omega), if_pos (by omega), if_pos (by omega), atomic_eq x i (by omega) k (by omega), Ad.wr1 i (by omega) (by omega)]
    congr 1
    funext b
    have ih := isAtom_el x hx h0 n k (i + 1) (by omega) (by omega)
    rw [show ((i + 1 : Nat) : Int) = (i : Int) + 1 by omega] at ih
    rw [ih]
theorem isAtom_eq (x : ByteArray) (hx : x.size < 1000000000) (k : Nat) (hk : x.size + 40 < k) : bulletinref12_IsAtom.f k x = lex_IsAtom.f k x := by
  unfold bulletinref12_IsAtom.f lex_IsAtom.f
  by_cases h0 : x.toList = ([] : List UInt8)
  · rw [if_pos h0]
    have hs : x.size = 0 := by
      obtain ⟨l, rfl⟩ := Ad.list_eq x
      rw [Ad.toList_mk] at h0
      rw [Ad.size_list, h0]
      rfl
    obtain ⟨k, rfl⟩ : ∃ j, k = j + 1 := ⟨k - 1, by omega⟩
    unfold lex_IsAtom.l0
    rw [if_neg (by omega), h0]
    rfl
  · rw [if_neg h0]
    exact isAtom_el x hx h0 x.size k 0 (by omega) (by omega)
theorem split_l (s : List UInt8) (hs : s.length < 1000000000) : ∀ (r d cur : List UInt8) (acc : List ByteArray) (k : Nat), d ++ r = s → r.length < k → cur.length ≤ d.length → acc.length ≤ d.length →
    bulletinref13_Split.l0 k (mk s) 46 acc (mk cur) (d.length : Int) = some (acc ++ (Sp.splitC 46 cur r).map mk)
  | [], d, cur, acc, k, he, hk, hc, ha => by
    obtain ⟨k, rfl⟩ : ∃ j, k = j + 1 := ⟨k - 1, by omega⟩
    have hl : s.length = d.length := by rw [← he]; simp
    unfold bulletinref13_Split.l0
    rw [size_mk, if_neg (by omega), if_pos (by omega)]
    simp [Sp.splitC]
  | y :: r, d, cur, acc, k, he, hk, hc, ha => by
    obtain ⟨k, rfl⟩ : ∃ j, k = j + 1 := ⟨k - 1, by omega⟩
    simp only [List.length_cons] at hk
    have hl : s.length = d.length + r.length + 1 := by rw [← he]; simp; omega
    have hb : bt (mk s) (d.length : Int) = (y.toNat : Int) := by
      have := Ad.bt_list s d.length (by omega)
      rw [show s[d.length]'(by omega) = y by subst he; simp] at this
      exact this
    have hx : (mk s).extract d.length (d.length + 1) = mk [y] := by
      rw [extract_mk]
      subst he
      simp
    unfold bulletinref13_Split.l0
    rw [size_mk, if_pos (by omega), if_pos (by omega), hb, Ad.wr1 _ (by omega) (by omega), show ((d.length : Int) + 1) = ((d.length + 1 : Nat) : Int) by omega, Int.toNat_natCast, Int.toNat_natCast, hx]
    have e : (d ++ [y]).length = d.length + 1 := by simp
    by_cases h : y = 46
    · subst h
      rw [if_pos (by decide), if_pos (by omega)]
      have ih := split_l s hs r (d ++ [46]) [] (acc ++ [mk cur]) k (by rw [← he]; simp) (by omega) (Nat.zero_le _) (by simp; omega)
      rw [e] at ih
      rw [Sp.splitC, if_pos rfl, List.map_cons]
      refine ih.trans ?_
      simp
    · have h' : ¬ ((y.toNat : Int) = 46) := fun hh => h (UInt8.toNat_inj.1 (show y.toNat = 46 by omega))
      rw [if_neg h', if_pos (by omega), if_pos (by omega), size_mk, size_mk, if_pos (by simp only [List.length_singleton]; omega), mk_append]
      have ih := split_l s hs r (d ++ [y]) (cur ++ [y]) acc k (by rw [← he]; simp) (by omega) (by simp; omega) (by simp; omega)
      rw [e] at ih
      rw [Sp.splitC, if_neg h]
      exact ih
theorem dotted_l (k0 : Nat) (l : List ByteArray) (hl : l.length < 1000000000) : ∀ (n i k : Nat), i + n = l.length → k0 + n < k → (∀ x ∈ l, x.size + 40 < k0 ∧ x.size < 1000000000) → bulletinref13_Dotted.l0 k l (i : Int) = Sp.allP (lex_IsAtom.f k0) (l.drop i)
  | 0, i, k, hi, hk, h => by
    obtain ⟨k, rfl⟩ : ∃ j, k = j + 1 := ⟨k - 1, by omega⟩
    unfold bulletinref13_Dotted.l0
    rw [if_neg (by omega), List.drop_of_length_le (by omega)]
    rfl
  | n + 1, i, k, hi, hk, h => by
    obtain ⟨k, rfl⟩ : ∃ j, k = j + 1 := ⟨k - 1, by omega⟩
    have hin : i < l.length := by omega
    have e : rdOf ByteArray.empty l (i : Int) = l[i] := by
      unfold rdOf
      rw [Int.toNat_natCast, List.getD_eq_getElem?_getD, List.getElem?_eq_getElem hin]
      rfl
    have hm := h _ (List.getElem_mem hin)
    obtain ⟨b, hb⟩ := Ad.isAtom_l l[i] hm.2 l[i].size k0 0 (by omega) (by omega)
    have hb' : lex_IsAtom.f k0 l[i] = some b := hb
    have ih := dotted_l k0 l hl n (i + 1) k (by omega) (by omega) h
    unfold bulletinref13_Dotted.l0
    rw [if_pos (by omega), if_pos (by omega), e, isAtom_eq _ hm.2 k (by omega), up_of (lex_IsAtom.mono _) hb' k (by omega), Ad.wr1 i (by omega) (by omega), show ((i : Int) + 1) = ((i + 1 : Nat) : Int) by omega, ih, List.drop_eq_getElem_cons hin]
    show _ = (lex_IsAtom.f k0 l[i]).bind fun b => if b = true then Sp.allP (lex_IsAtom.f k0) (l.drop (i + 1)) else some false
    rw [hb']
theorem dotted_eq (x : ByteArray) (hx : x.size < 1000000) (k : Nat) (hk : 2 * x.size + 100 < k) : bulletinref13_Dotted.f k x = addr_Dotted.f k x := by
  obtain ⟨l, rfl⟩ : ∃ l, x = mk l := ⟨x.data.toList, (mk_data _).symm⟩
  rw [size_mk] at hx hk
  have hp := split_l l (by omega) l [] [] [] k rfl (by omega) (Nat.le_refl _) (Nat.le_refl _)
  have hn := splitC_len 46 l []
  unfold bulletinref13_Dotted.f addr_Dotted.f bulletinref13_Split.f
  rw [if_pos (by rw [size_mk]; omega)]
  refine (congrArg (fun o => Option.bind o _) hp).trans ?_
  dsimp only [Option.bind_some]
  rw [List.nil_append]
  have hs : ∀ y ∈ (Sp.splitC 46 [] l).map mk, y.size + 40 < l.length + 50 ∧ y.size < 1000000000 := by
    intro y hy
    obtain ⟨z, hz, rfl⟩ := List.mem_map.1 hy
    have := Ad.splitC_sub 46 l [] z hz
    rw [size_mk]
    simp only [List.length_nil, Nat.zero_add] at this
    omega
  have e := dotted_l (l.length + 50) ((Sp.splitC 46 [] l).map mk) (by rw [List.length_map]; omega) _ 0 k (Nat.zero_add _) (by rw [List.length_map]; omega) hs
  refine e.trans ?_
  rw [List.drop_zero]
  obtain ⟨b, hb⟩ := Ad.allP_t (f := lex_IsAtom.f (l.length + 50)) ((Sp.splitC 46 [] l).map mk) (fun y hy => Ad.isAtom_l y (hs y hy).2 y.size _ 0 (by omega) (by have := (hs y hy).1; omega))
  rw [hb]
  exact (up_of (f := fun j => Sp.allP (lex_IsAtom.f j) ((Sp.splitC 46 [] l).map mk)) (fun j => Sp.allP_mono _ _ (fun y => lex_IsAtom.mono y j) _) hb k (by omega)).symm
theorem quote_el (x : List UInt8) (hx : x.length < 1000000) : ∀ (n k i : Nat) (l : List UInt8), i + n = x.length → 2 * n + 10 < k → l.length ≤ 2 * i →
    bulletinref12_Quote.l0 k (mk x) (mk l) (i : Int) = lex_Quote.l0 k (mk x) (nn (34 :: l)) (x.length : Int) (i : Int)
  | 0, k, i, l, hn, hk, ha => by
    obtain ⟨k, rfl⟩ : ∃ j, k = j + 1 := ⟨k - 1, by omega⟩
    have hl := nn_len (34 :: l)
    simp only [List.length_cons] at hl
    unfold lex_Quote.l0 bulletinref12_Quote.l0
    rw [size_mk, size_mk, if_neg (by omega), if_pos (by omega), if_pos (by omega), if_neg (by omega), if_pos (by omega)]
    congr 1
    rw [show (34 : Int) = ((34 : UInt8).toNat : Int) from rfl, nn_snoc]
    refine Eq.trans ?_ (str_nn _).symm
    exact (congrArg (· ++ mk [34]) (mk_append [34] l)).trans (mk_append _ _)
  | n + 1, k, i, l, hn, hk, ha => by
    obtain ⟨k, rfl⟩ : ∃ j, k = j + 2 := ⟨k - 2, by omega⟩
    have hi : i < x.length := by omega
    have ex := extract_one x i hi
    have eb := bt_mk x i hi
    have hl := nn_len (34 :: l)
    simp only [List.length_cons] at hl
    have tb := textb_eq (mk x) i (by rw [size_mk]; omega)
    obtain ⟨t, ht⟩ := Ad.text_t (bt (mk x) (i : Int))
    rw [ht] at tb
    have w := Ad.wr1 (i : Int) (by omega) (by omega)
    have w' : ((i : Int) + 1) = ((i + 1 : Nat) : Int) := by omega
    have j : ∀ q : Bool, (q = true → bt (mk x) (i : Int) = 34 ∨ bt (mk x) (i : Int) = 92) → bulletinref12_Quote.j1 (k + 1) (mk x) (mk l) (i : Int) (mk [x[i]]) q = lex_Quote.j1 (k + 1) (mk x) (nn (34 :: l)) (bt (mk x) (i : Int)) (x.length : Int) (i : Int) q := by
      intro q hq
      unfold lex_Quote.j1 bulletinref12_Quote.j1
      rw [w, w', size_mk, size_mk, size_mk]
      by_cases h : q = true
      · have ht1 : t = true := by
          have h2 : lex_text.f (bt (mk x) (i : Int)) = some true := by
            rcases hq h with e | e <;> rw [e] <;> rfl
          exact Option.some.inj (ht.symm.trans h2)
        rw [if_pos h, if_pos h, if_pos (by simp), if_pos (by omega), if_pos (by omega), tb]
        dsimp only [Option.bind_some]
        rw [if_pos ht1, if_pos (by simp; omega), if_pos (by omega)]
        rw [if_pos (by rw [List.length_append, hl, List.length_singleton]; omega), eb, show (92 : Int) = ((92 : UInt8).toNat : Int) from rfl, nn_snoc, nn_snoc]
        have ih := quote_el x hx n k (i + 1) (l ++ [92, x[i]]) (by omega) (by omega) (by simp; omega)
        rw [show (⟨#[92]⟩ : ByteArray) = mk [92] from rfl, mk_append, mk_append]
        refine ih.trans ?_
        simp
      · rw [if_neg h, if_neg h, if_pos (by omega), if_pos (by omega), tb, ht]
        dsimp only [Option.bind_some]
        by_cases h1 : t = true
        · rw [if_pos h1, if_pos h1, if_pos (by simp; omega), if_pos (by omega), eb, nn_snoc, mk_append]
          exact quote_el x hx n k (i + 1) (l ++ [x[i]]) (by omega) (by omega) (by simp; omega)
        · rw [if_neg h1, if_neg h1, if_pos (by omega), if_pos (by omega), show (32 : Int) = ((32 : UInt8).toNat : Int) from rfl, nn_snoc, show (⟨#[32]⟩ : ByteArray) = mk [32] from rfl, mk_append]
          exact quote_el x hx n k (i + 1) (l ++ [32]) (by omega) (by omega) (by simp; omega)
    unfold lex_Quote.l0 bulletinref12_Quote.l0
    rw [size_mk, if_pos (by omega), if_pos (by omega), w, w', if_pos (by omega), if_pos (by omega), Int.toNat_natCast, Int.toNat_natCast, ex]
    by_cases h34 : bt (mk x) (i : Int) = 34
    · rw [if_pos h34, if_pos (by omega), if_pos (by omega), if_pos (by omega), if_pos h34]
      exact j true (fun _ => .inl h34)
    · rw [if_neg h34, if_pos (by omega), if_pos (by omega), if_pos (by omega), if_neg h34]
      exact j _ (fun h => .inr (eq_of_beq h))
theorem quote_eq (x : ByteArray) (hx : x.size < 1000000) (k : Nat) (hk : 2 * x.size + 10 < k) : bulletinref12_Quote.f k x = lex_Quote.f k x := by
  obtain ⟨l, rfl⟩ : ∃ l, x = mk l := ⟨x.data.toList, (mk_data _).symm⟩
  rw [size_mk] at hx hk
  have := quote_el l hx l.length k 0 [] (Nat.zero_add _) hk (Nat.le_refl _)
  unfold bulletinref12_Quote.f lex_Quote.f
  rw [size_mk]
  exact this
theorem addrText_eq (a b : ByteArray) (ha : a.size < 1000000) (k : Nat) (hk : 2 * a.size + 100 < k) : bulletinref13_Text.f k a b = addr_Addr_Text.f k a b := by
  unfold bulletinref13_Text.f addr_Addr_Text.f
  rw [dotted_eq a ha k hk, quote_eq a ha k (by omega)]
end Go.Proofs.YtcpmoolpbeeedaaGreatDoor.Q
