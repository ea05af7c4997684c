/- Addresses, plain: a right address is read of its text (the program's words). -/
import Derived.Test.YtcpmoolpbeeedaaGreatDoorUN
namespace Go.Proofs.YtcpmoolpbeeedaaGreatDoor.Q
open Go.RowKit Go.Proofs.YtcpmoolpbeeedaaGreatDoorW.PrintWords Go.Proofs.YtcpmoolpbeeedaaGreatDoorW.PrintLast Go.Proofs.YtcpmoolpbeeedaaGreatDoorW.PrintMore

/-- May a byte stand in an atom? -/
def atm (c : UInt8) : Bool := (lex_atomic.f (c.toNat : Int)).getD false
theorem atm_all : (List.range 256).all (fun n => decide (lex_atomic.f (n : Int) = some ((lex_atomic.f (n : Int)).getD false)) && (!((lex_atomic.f (n : Int)).getD false) || (decide (n ≠ 13 ∧ n ≠ 34 ∧ n ≠ 40 ∧ n ≠ 46 ∧ n ≠ 64 ∧ n ≠ 32 ∧ n ≠ 9) && decide (lex_sign.f (n : Int) = some false)))) = true := by decide +kernel
theorem atm_is (c : UInt8) : lex_atomic.f (c.toNat : Int) = some (atm c) := by
  have h := List.all_eq_true.1 atm_all c.toNat (List.mem_range.2 c.toNat_lt)
  rw [Bool.and_eq_true] at h
  exact of_decide_eq_true h.1
theorem atm_facts (c : UInt8) (hc : atm c = true) : (c.toNat ≠ 13 ∧ c.toNat ≠ 34 ∧ c.toNat ≠ 40 ∧ c.toNat ≠ 46 ∧ c.toNat ≠ 64 ∧ c.toNat ≠ 32 ∧ c.toNat ≠ 9) ∧ lex_sign.f (c.toNat : Int) = some false := by
  have h := List.all_eq_true.1 atm_all c.toNat (List.mem_range.2 c.toNat_lt)
  unfold atm at hc
  rw [hc, Bool.and_eq_true, Bool.not_true, Bool.false_or, Bool.and_eq_true] at h
  exact ⟨of_decide_eq_true h.2.1, of_decide_eq_true h.2.2⟩
theorem atm_dot : atm 46 = false := by decide +kernel
theorem atm_at : atm 64 = false := by decide +kernel
theorem bt_at (a b : List UInt8) (c : UInt8) : bt (mk (a ++ c :: b)) (a.length : Int) = (c.toNat : Int) := by
  rw [bt_mk _ _ (by simp)]
  simp
theorem bt_head (b : List UInt8) (c : UInt8) : bt (mk (c :: b)) 0 = (c.toNat : Int) := bt_at [] b c
theorem ext_front (a b : List UInt8) : (mk (a ++ b)).extract 0 a.length = mk a := by
  rw [extract_mk]
  simp
theorem ext_back (a b : List UInt8) (n : Nat) (h : n = (a ++ b).length) : (mk (a ++ b)).extract a.length n = mk b := by
  rw [extract_mk, h]
  simp
theorem fold_no (x : ByteArray) (h : bt x 0 ≠ 13) : lex_fold.f x = some false := by
  unfold lex_fold.f
  by_cases h1 : (x.size : Int) > 2
  · rw [if_pos h1, if_pos (by omega), if_neg h]
  · rw [if_neg h1]
abbrev Atom (p : List UInt8) : Prop := p ≠ [] ∧ ∀ c ∈ p, atm c = true
abbrev Stop (r : List UInt8) : Prop := ∀ c ∈ r.head?, atm c = false
theorem next_run (p r : List UInt8) (hp : Atom p) (hr : Stop r) (hl : (p ++ r).length < 1000000) : ∀ (n i k : Nat), i + n = p.length → n < k → lex_next.l0 k (mk (p ++ r)) (i : Int) = some (1, mk p, mk r, 0)
  | 0, i, k, hi, hk => by
    obtain ⟨k, rfl⟩ : ∃ j, k = j + 1 := ⟨k - 1, by omega⟩
    have hpl : 0 < p.length := List.length_pos_iff.2 hp.1
    obtain rfl : i = p.length := by omega
    rw [lex_next.l0, size_mk, Int.toNat_natCast, ext_front, ext_back p r _ rfl]
    match r, hr, hl with
    | [], _, hl => rw [if_neg (by simp), if_neg (by omega), if_pos (by omega), if_pos (by simp)]
    | c :: r, hr, hl =>
      rw [if_pos (by simp <;> omega), if_pos (by omega), bt_at, atm_is, hr c rfl, Option.bind_some, if_neg (by decide), if_neg (by omega), if_pos (by simp <;> omega)]
  | n + 1, i, k, hi, hk => by
    obtain ⟨k, rfl⟩ : ∃ j, k = j + 1 := ⟨k - 1, by omega⟩
    have hil : i < (p ++ r).length := by simp <;> omega
    have hx : (p ++ r)[i] ∈ p := by
      rw [List.getElem_append_left (by omega)]
      exact List.getElem_mem _
    rw [lex_next.l0, size_mk, if_pos (by omega), if_pos (by omega), bt_mk _ _ hil, atm_is, hp.2 _ hx, Option.bind_some, if_pos rfl, wr1 i (by omega)]
    exact next_run p r hp hr hl n (i + 1) k (by omega) (by omega)
theorem next_atom (p r : List UInt8) (hp : Atom p) (hr : Stop r) (hl : (p ++ r).length < 1000000) (k : Nat) (hk : p.length < k) : lex_next.f k (mk (p ++ r)) = some (1, mk p, mk r, 0) := by
  have hrun := next_run p r hp hr hl p.length 0 k (by omega) hk
  match p, hp, hl, hrun with
  | c :: p, hp, hl, hrun =>
    obtain ⟨⟨h1, h2, h3, h4, h5, h6, h7⟩, h8⟩ := atm_facts c (hp.2 c (by simp))
    have hb : bt (mk (c :: p ++ r)) 0 = (c.toNat : Int) := bt_head _ c
    unfold lex_next.f
    rw [size_mk, if_pos (by simp <;> omega), hb, lex_white.f, if_neg (by omega), Option.bind_some, show ((c.toNat : Int) == 9) = false by simp <;> omega, if_neg (by decide), fold_no _ (by rw [hb]; omega), Option.bind_some, if_neg (by decide), if_neg (by omega), if_neg (by omega), h8, Option.bind_some, if_neg (by decide)]
    exact hrun
theorem next_sign (c : UInt8) (r : List UInt8) (hc : c = 46 ∨ c = 64) (hl : r.length < 1000000) (k : Nat) : lex_next.f k (mk (c :: r)) = some (3, mk [c], mk r, 0) := by
  have hb : bt (mk (c :: r)) 0 = (c.toNat : Int) := bt_head _ c
  have hs : lex_sign.f (c.toNat : Int) = some true ∧ c.toNat ≠ 13 ∧ c.toNat ≠ 34 ∧ c.toNat ≠ 40 ∧ c.toNat ≠ 32 ∧ c.toNat ≠ 9 := by rcases hc with rfl | rfl <;> decide +kernel
  obtain ⟨h8, h1, h2, h3, h6, h7⟩ := hs
  have e1 := ext_front [c] r
  have e2 := ext_back [c] r _ rfl
  unfold lex_next.f
  rw [size_mk, if_pos (by simp <;> omega), hb, lex_white.f, if_neg (by omega), Option.bind_some, show ((c.toNat : Int) == 9) = false by simp <;> omega, if_neg (by decide), fold_no _ (by rw [hb]; omega), Option.bind_some, if_neg (by decide), if_neg (by omega), if_neg (by omega), h8, Option.bind_some, if_pos rfl, if_pos (by omega), if_pos (by simp <;> omega)]
  exact congrArg some (Prod.ext rfl (Prod.ext e1 (Prod.ext e2 rfl)))
/-- Bytes as a quoted text has them. -/
def esc1 (c : UInt8) : List UInt8 := if c = 34 ∨ c = 92 then [92, c] else [c]
def esq (l : List UInt8) : List UInt8 := l.flatMap esc1
theorem esq_app (a b : List UInt8) : esq (a ++ b) = esq a ++ esq b := by simp [esq]
theorem esq_cons (c : UInt8) (b : List UInt8) : esq (c :: b) = esc1 c ++ esq b := by simp [esq]
theorem esc1_len (c : UInt8) : 1 ≤ (esc1 c).length ∧ (esc1 c).length ≤ 2 := by unfold esc1; split <;> simp
theorem esq_len (l : List UInt8) : l.length ≤ (esq l).length ∧ (esq l).length ≤ 2 * l.length := by
  induction l with
  | nil => simp [esq]
  | cons c l ih => rw [esq_cons, List.length_append, List.length_cons]; have := esc1_len c; omega
theorem text_plain (c : UInt8) (h : plainB c = true) : lex_text.f (c.toNat : Int) = some true := by
  unfold plainB at h
  rw [Bool.and_eq_true, decide_eq_true_eq, decide_eq_true_eq] at h
  unfold lex_text.f
  rw [if_neg (by omega), if_pos (by omega)]
  simp
  omega
theorem plain_ne (c : UInt8) (h : plainB c = true) : c.toNat ≠ 13 := by
  unfold plainB at h
  rw [Bool.and_eq_true, decide_eq_true_eq, decide_eq_true_eq] at h
  omega
theorem quoted_run (L r : List UInt8) (hp : ∀ c ∈ L, plainB c = true) (hl : L.length + r.length < 100000) : ∀ (L2 L1 : List UInt8) (k i : Nat), L = L1 ++ L2 → i = (esq L1).length + 1 → L2.length < k →
    lex_quoted.l0 k (mk (34 :: (esq L ++ 34 :: r))) (nn L1) (i : Int) = some (2, mk L, mk r, 0)
  | [], L1, k, i, he, hi, hk => by
    obtain ⟨k, rfl⟩ : ∃ j, k = j + 1 := ⟨k - 1, by omega⟩
    rw [List.append_nil] at he
    subst he
    have hx : 34 :: (esq L ++ 34 :: r) = (34 :: esq L) ++ 34 :: r := rfl
    have hi' : i = (34 :: esq L).length := by rw [hi]; rfl
    have l1 := esq_len L
    rw [lex_quoted.l0, hx, size_mk, hi', bt_at, if_pos (by simp <;> omega), if_pos (by omega), if_pos (by simp <;> omega), Int.toNat_natCast, ext_back (34 :: esq L) (34 :: r) _ rfl, fold_no _ (by rw [bt_head]; decide), Option.bind_some, if_neg (by decide), if_neg (by decide), if_pos (by decide), wr1 _ (by simp <;> omega), if_pos (by omega), if_pos (by simp <;> omega), str_nn, Int.toNat_natCast]
    have e := ext_back ((34 :: esq L) ++ [34]) r ((34 :: esq L) ++ 34 :: r).length (by simp <;> omega)
    rw [show ((34 :: esq L) ++ [34]) ++ r = (34 :: esq L) ++ 34 :: r by simp, show ((34 :: esq L) ++ [34] : List UInt8).length = (34 :: esq L).length + 1 by simp] at e
    rw [e]
  | c :: L2, L1, k, i, he, hi, hk => by
    obtain ⟨k, rfl⟩ : ∃ j, k = j + 1 := ⟨k - 1, by omega⟩
    have hc := hp c (by rw [he]; simp)
    have l1 := esq_len L1
    have l2 := esq_len L2
    have hL : L.length = L1.length + L2.length + 1 := by rw [he]; simp; omega
    have hk' : L2.length < k := by rw [List.length_cons] at hk; omega
    have hnl := nn_len L1
    by_cases hq : c = 34 ∨ c = 92
    · have ee : esc1 c = [92, c] := if_pos hq
      have hx : 34 :: (esq L ++ 34 :: r) = (34 :: esq L1) ++ 92 :: (c :: (esq L2 ++ 34 :: r)) := by rw [he, esq_app, esq_cons, ee]; simp
      have hx2 : 34 :: (esq L ++ 34 :: r) = ((34 :: esq L1) ++ [92]) ++ c :: (esq L2 ++ 34 :: r) := by rw [hx]; simp
      have hi' : i = (34 :: esq L1).length := by rw [hi]; rfl
      have hi2 : i + 1 = ((34 :: esq L1) ++ [92]).length := by rw [hi]; simp
      have hlen : (34 :: (esq L ++ 34 :: r)).length = (esq L1).length + 3 + (esq L2).length + 1 + r.length := by rw [hx]; simp; omega
      have b1 : bt (mk (34 :: (esq L ++ 34 :: r))) (i : Int) = 92 := by rw [hx, hi', bt_at]; rfl
      have b2 : bt (mk (34 :: (esq L ++ 34 :: r))) ((i + 1 : Nat) : Int) = (c.toNat : Int) := by rw [hx2, hi2, bt_at]
      have e1 : (mk (34 :: (esq L ++ 34 :: r))).extract i (34 :: (esq L ++ 34 :: r)).length = mk (92 :: (c :: (esq L2 ++ 34 :: r))) := by rw [hx, hi', ext_back _ _ _ rfl]
      have e2 : (mk (34 :: (esq L ++ 34 :: r))).extract (i + 1) (34 :: (esq L ++ 34 :: r)).length = mk (c :: (esq L2 ++ 34 :: r)) := by rw [hx2, hi2, ext_back _ _ _ rfl]
      have es : lex_escaped.f (mk (c :: (esq L2 ++ 34 :: r))) = some 0 := by
        unfold lex_escaped.f
        rw [toList_mk, if_neg (by simp), size_mk, if_pos (by simp <;> omega), bt_head, text_plain c hc]
        rfl
      have ih := quoted_run L r hp hl L2 (L1 ++ [c]) k (i + 2) (by rw [he]; simp) (by rw [esq_app, hi]; simp [esq, ee]) hk'
      rw [lex_quoted.l0, size_mk, if_pos (by omega), if_pos (by omega), if_pos (by omega), Int.toNat_natCast, e1, fold_no _ (by rw [bt_head]; decide), Option.bind_some, if_neg (by decide), b1, if_pos rfl, wr1 i (by omega), if_pos (by omega), if_pos (by omega), Int.toNat_natCast, e2, es, Option.bind_some, if_pos rfl, if_pos (by omega), if_pos (by omega), b2, nn_snoc, wr1 (i + 1) (by omega)]
      exact ih
    · have ee : esc1 c = [c] := if_neg hq
      have hx : 34 :: (esq L ++ 34 :: r) = (34 :: esq L1) ++ c :: (esq L2 ++ 34 :: r) := by rw [he, esq_app, esq_cons, ee]; simp
      have hi' : i = (34 :: esq L1).length := by rw [hi]; rfl
      have hlen : (34 :: (esq L ++ 34 :: r)).length = (esq L1).length + 2 + (esq L2).length + 1 + r.length := by rw [hx]; simp; omega
      have b1 : bt (mk (34 :: (esq L ++ 34 :: r))) (i : Int) = (c.toNat : Int) := by rw [hx, hi', bt_at]
      have e1 : (mk (34 :: (esq L ++ 34 :: r))).extract i (34 :: (esq L ++ 34 :: r)).length = mk (c :: (esq L2 ++ 34 :: r)) := by rw [hx, hi', ext_back _ _ _ rfl]
      have n1 : c.toNat ≠ 34 := fun h => hq (Or.inl (UInt8.toNat_inj.1 h))
      have n2 : c.toNat ≠ 92 := fun h => hq (Or.inr (UInt8.toNat_inj.1 h))
      have ih := quoted_run L r hp hl L2 (L1 ++ [c]) k (i + 1) (by rw [he]; simp) (by rw [esq_app, hi]; simp [esq, ee]) hk'
      rw [lex_quoted.l0, size_mk, if_pos (by omega), if_pos (by omega), if_pos (by omega), Int.toNat_natCast, e1, fold_no _ (by rw [bt_head]; have := plain_ne c hc; omega), Option.bind_some, if_neg (by decide), b1, if_neg (by omega), if_neg (by omega), text_plain c hc, Option.bind_some, if_pos rfl, if_pos (by omega), nn_snoc, wr1 i (by omega)]
      exact ih
theorem next_quoted (L r : List UInt8) (hp : ∀ c ∈ L, plainB c = true) (hl : L.length + r.length < 100000) (k : Nat) (hk : L.length < k) : lex_next.f k (mk (34 :: (esq L ++ 34 :: r))) = some (2, mk L, mk r, 0) := by
  have hb : bt (mk (34 :: (esq L ++ 34 :: r))) 0 = 34 := bt_head _ 34
  have hq := quoted_run L r hp hl L [] k 1 rfl rfl hk
  have hq' : lex_quoted.f k (mk (34 :: (esq L ++ 34 :: r))) = some (2, mk L, mk r, 0) := hq
  unfold lex_next.f
  rw [size_mk, if_pos (by simp <;> omega), hb, lex_white.f, if_neg (by decide), Option.bind_some, if_neg (by decide), fold_no _ (by rw [hb]; decide), Option.bind_some, if_neg (by decide), if_neg (by decide), if_pos rfl, hq']
  rfl
def tA (p : List UInt8) : S158 := ⟨1, mk p⟩
def tS (c : UInt8) : S158 := ⟨3, mk [c]⟩
def tQ (p : List UInt8) : S158 := ⟨2, mk p⟩
def dots : List (List UInt8) → List UInt8
  | [] => []
  | [p] => p
  | p :: q :: l => p ++ 46 :: dots (q :: l)
def toks : List (List UInt8) → List S158
  | [] => []
  | [p] => [tA p]
  | p :: q :: l => tA p :: tS 46 :: toks (q :: l)
section
variable {v : List S158 × Int}
theorem scan_nil (acc : List S158) (k : Nat) (hk : 1 ≤ k) : lex_Scan.l0 k (mk []) acc = some (acc, 0) := by
  obtain ⟨k, rfl⟩ : ∃ j, k = j + 1 := ⟨k - 1, by omega⟩
  rw [lex_Scan.l0, toList_mk, if_pos rfl]
theorem scan_step {s r : List UInt8} {acc : List S158} {t : S158} {K M : Nat} (hs : s ≠ []) (hn : ∀ k, M ≤ k → lex_next.f k (mk s) = some (t.f0, t.f1, mk r, 0)) (ht : t.f0 ≠ 0) (ha : acc.length < 1000000)
    (h : ∀ j, K ≤ j → lex_Scan.l0 j (mk r) (acc ++ [t]) = some v) (hM : M ≤ K) : ∀ k, K + 1 ≤ k → lex_Scan.l0 k (mk s) acc = some v := fun k hk => by
  obtain ⟨k, rfl⟩ : ∃ j, k = j + 1 := ⟨k - 1, by omega⟩
  rw [lex_Scan.l0, toList_mk, if_neg hs, hn k (by omega), Option.bind_some, if_pos rfl, if_neg ht, if_pos (by omega)]
  exact h k (by omega)
theorem scan_dots (r : List UInt8) (hr : Stop r) (K : Nat) : ∀ (ps : List (List UInt8)) (acc : List S158), ps ≠ [] → (∀ p ∈ ps, Atom p) → (dots ps ++ r).length < 1000000 → acc.length + 2 * ps.length < 1000000 → (dots ps).length < K →
    (∀ j, K ≤ j → lex_Scan.l0 j (mk r) (acc ++ toks ps) = some v) → ∀ k, K + 2 * ps.length ≤ k → lex_Scan.l0 k (mk (dots ps ++ r)) acc = some v
  | [], _, h0, _, _, _, _, _ => absurd rfl h0
  | [p], acc, _, hp, hl, ha, hK, h => by
    have hpp := hp p (by simp)
    intro k hk
    exact scan_step (t := tA p) (M := K) (by have := hpp.1; simp [this]) (fun k hk => next_atom p r hpp hr hl k (by have : dots [p] = p := rfl; rw [this] at hK; omega)) (by decide : (1 : Int) ≠ 0) (by omega) h (Nat.le_refl _) k (by simp at hk; omega)
  | p :: q :: l, acc, _, hp, hl, ha, hK, h => by
    have hpp := hp p (by simp)
    have hd : dots (p :: q :: l) = p ++ 46 :: dots (q :: l) := rfl
    have ht : toks (p :: q :: l) = [tA p] ++ [tS 46] ++ toks (q :: l) := rfl
    rw [hd] at hl hK
    rw [ht] at h
    simp only [List.length_append, List.length_cons] at hl hK ha
    have ih := scan_dots r hr K (q :: l) (acc ++ [tA p] ++ [tS 46]) (by simp) (fun x hx => hp x (by simp at hx ⊢; right; exact hx)) (by simp <;> omega) (by simp <;> omega) (by omega) (by simpa using h)
    have h2 := scan_step (s := 46 :: (dots (q :: l) ++ r)) (t := tS 46) (acc := acc ++ [tA p]) (M := 0) (by simp) (fun k _ => next_sign 46 _ (Or.inl rfl) (by simp <;> omega) k) (by decide : (3 : Int) ≠ 0) (by simp <;> omega) ih (by omega)
    have h3 := scan_step (s := p ++ 46 :: (dots (q :: l) ++ r)) (t := tA p) (acc := acc) (M := K) (by simp) (fun k hk => next_atom p _ hpp (fun c hc => by simp at hc; subst hc; exact atm_dot) (by simp <;> omega) k (by omega)) (by decide : (1 : Int) ≠ 0) (by omega) h2 (by omega)
    intro k hk
    rw [hd, show (p ++ 46 :: dots (q :: l)) ++ r = p ++ 46 :: (dots (q :: l) ++ r) by simp]
    exact h3 k (by simp at hk ⊢; omega)
end
theorem rd_cons (t : S158) (l : List S158) : rd_T158 (t :: l) 0 = t := rfl
theorem is_cons (t : S158) (l : List S158) (a : ByteArray) : addr_is.f (t :: l) a = some (t.f0 == 3 && (t.f1.toList == a.toList)) := by
  unfold addr_is.f
  rw [if_pos (by simp <;> omega), if_pos (by simp <;> omega), rd_cons]
theorem dot_yes : ((tS 46).f0 == 3 && ((tS 46).f1.toList == (⟨#[46]⟩ : ByteArray).toList)) = true := by
  show ((3 : Int) == 3 && ((mk [46]).toList == (mk [46]).toList)) = true
  rw [toList_mk]
  rfl
theorem at_dot : ((tS 64).f0 == 3 && ((tS 64).f1.toList == (⟨#[46]⟩ : ByteArray).toList)) = false := by
  show ((3 : Int) == 3 && ((mk [64]).toList == (mk [46]).toList)) = false
  rw [toList_mk, toList_mk]
  rfl
theorem at_yes : ((tS 64).f0 == 3 && ((tS 64).f1.toList == (⟨#[64]⟩ : ByteArray).toList)) = true := by
  show ((3 : Int) == 3 && ((mk [64]).toList == (mk [64]).toList)) = true
  rw [toList_mk]
  rfl
theorem is_nil (a : ByteArray) : addr_is.f [] a = some false := rfl
theorem joined_one (b : Bool) (t : S158) (r : List S158) (acc : List UInt8) (x : List UInt8) (hx : t.f1 = mk x) (ht : t.f0 = 1 ∨ (t.f0 = 2 ∧ b = false)) (hl : acc.length + x.length < 1000000) (hr : addr_is.f r (⟨#[46]⟩ : ByteArray) = some false) (k : Nat) (hk : 2 ≤ k) :
    addr_joined.l0 k (t :: r) b (mk acc) = some (mk (acc ++ x), r, true) := by
  obtain ⟨k, rfl⟩ : ∃ j, k = j + 2 := ⟨k - 2, by omega⟩
  have hj : addr_joined.j1 (k + 1) (t :: r) b (mk acc) false = some (mk (acc ++ x), r, true) := by
    rw [addr_joined.j1, if_neg (by decide), if_pos (by simp <;> omega), rd_cons, hx, size_mk, size_mk, if_pos (by omega), if_pos (by simp <;> omega), Option.bind_some, List.drop_one, List.tail_cons, hr, Option.bind_some, if_neg (by decide), mk_append]
  rw [addr_joined.l0, if_neg (by simp <;> omega), if_pos (by simp <;> omega), rd_cons, if_neg (by rcases ht with h | h <;> omega)]
  by_cases hb : b = true
  · have h1 : t.f0 = 1 := by
      rcases ht with h | h
      · exact h
      · rw [h.2] at hb; cases hb
    rw [if_pos hb, h1]
    exact hj
  · rw [if_neg hb]
    exact hj
theorem joined_dots (b : Bool) (r : List S158) (hr : addr_is.f r (⟨#[46]⟩ : ByteArray) = some false) : ∀ (ps : List (List UInt8)) (acc : List UInt8) (k : Nat), ps ≠ [] → acc.length + (dots ps).length < 1000000 → 2 * ps.length ≤ k →
    addr_joined.l0 k (toks ps ++ r) b (mk acc) = some (mk (acc ++ dots ps), r, true)
  | [], _, _, h0, _, _ => absurd rfl h0
  | [p], acc, k, _, hl, hk => joined_one b (tA p) r acc p rfl (Or.inl rfl) hl hr k hk
  | p :: q :: l, acc, k, _, hl, hk => by
    have hd : dots (p :: q :: l) = p ++ 46 :: dots (q :: l) := rfl
    have ht : toks (p :: q :: l) ++ r = tA p :: tS 46 :: (toks (q :: l) ++ r) := rfl
    rw [hd] at hl ⊢
    simp only [List.length_append, List.length_cons] at hl hk
    obtain ⟨k, rfl⟩ : ∃ j, k = j + 2 := ⟨k - 2, by omega⟩
    have ih := joined_dots b r hr (q :: l) (acc ++ p ++ [46]) k (by simp) (by simp <;> omega) (by simp <;> omega)
    have e46 : (⟨#[46]⟩ : ByteArray) = mk [46] := rfl
    have hj : addr_joined.j1 (k + 1) (tA p :: tS 46 :: (toks (q :: l) ++ r)) b (mk acc) false = some (mk (acc ++ p ++ [46] ++ dots (q :: l)), r, true) := by
      rw [addr_joined.j1, if_neg (by decide), if_pos (by simp <;> omega), rd_cons, show (tA p).f1 = mk p from rfl, size_mk, size_mk, if_pos (by omega), if_pos (by simp <;> omega), Option.bind_some, List.drop_one, List.tail_cons, is_cons, Option.bind_some, if_pos dot_yes, if_pos (by omega), if_pos (by simp <;> omega), List.drop_one, List.tail_cons, e46, mk_append, mk_append]
      exact ih
    rw [ht, addr_joined.l0, if_neg (by simp <;> omega), if_pos (by simp <;> omega), rd_cons, if_neg (show ¬ (tA p).f0 = 3 from (by decide : ¬ (1 : Int) = 3)), show ((tA p).f0 != 1) = false from rfl]
    have e : acc ++ (p ++ 46 :: dots (q :: l)) = acc ++ p ++ [46] ++ dots (q :: l) := by simp
    rw [e]
    split <;> exact hj
theorem splitC_ne (c : UInt8) : ∀ (l cur : List UInt8), Sp.splitC c cur l ≠ []
  | [], cur => by simp [Sp.splitC]
  | x :: l, cur => by
    rw [Sp.splitC]
    split
    · simp
    · exact splitC_ne c l _
theorem dots_cons (p : List UInt8) : ∀ (m : List (List UInt8)), m ≠ [] → dots (p :: m) = p ++ 46 :: dots m
  | [], h => absurd rfl h
  | _ :: _, _ => rfl
theorem dots_split : ∀ (l cur : List UInt8), dots (Sp.splitC 46 cur l) = cur ++ l
  | [], cur => by simp [Sp.splitC, dots]
  | x :: l, cur => by
    rw [Sp.splitC]
    by_cases h : x = 46
    · rw [if_pos h, dots_cons _ _ (splitC_ne 46 l []), dots_split l [], h]
      rfl
    · rw [if_neg h, dots_split l (cur ++ [x])]
      simp
theorem isAtom_atm (x : List UInt8) (hx : x.length < 1000000) : ∀ (n k i : Nat), i + n = x.length → lex_IsAtom.l0 k (mk x) (x.length : Int) (i : Int) = some true → x ≠ [] ∧ ∀ c ∈ x.drop i, atm c = true
  | n, 0, i, _, h => by cases h
  | 0, k + 1, i, hi, h => by
    rw [lex_IsAtom.l0, if_neg (by omega), toList_mk] at h
    rw [List.drop_of_length_le (by omega)]
    refine ⟨?_, fun c hc => by cases hc⟩
    simpa using h
  | n + 1, k + 1, i, hi, h => by
    have hin : i < x.length := by omega
    rw [lex_IsAtom.l0, if_pos (by omega), if_pos (by omega), size_mk, if_pos (by omega), bt_mk x i hin, atm_is, Option.bind_some, wr1 i (by omega)] at h
    by_cases ha : atm x[i] = true
    · rw [if_pos ha] at h
      have ih := isAtom_atm x hx n k (i + 1) (by omega) h
      refine ⟨ih.1, fun c hc => ?_⟩
      rw [List.drop_eq_getElem_cons hin] at hc
      rcases List.mem_cons.1 hc with rfl | hc
      · exact ha
      · exact ih.2 c hc
    · rw [if_neg ha] at h
      cases h
theorem allP_each {f : ByteArray → Option Bool} : ∀ (l : List ByteArray), Sp.allP f l = some true → ∀ y ∈ l, f y = some true
  | [], _, y, hy => by cases hy
  | x :: l, h, y, hy => by
    rw [Sp.allP] at h
    obtain ⟨b, hb, h⟩ := Option.bind_eq_some_iff.1 h
    by_cases hbt : b = true
    · rw [if_pos hbt] at h
      rcases List.mem_cons.1 hy with rfl | hy
      · rw [hb, hbt]
      · exact allP_each l h y hy
    · rw [if_neg hbt] at h
      cases h
theorem part_len (l p : List UInt8) (h : p ∈ Sp.splitC 46 [] l) : p.length ≤ l.length := by
  have := Ad.splitC_sub 46 l [] p h
  simpa using this
/-- A local part that is words joined by dots. -/
theorem dotted_atoms (L : List UInt8) (hl : L.length < 1000000) (k : Nat) (h : addr_Dotted.f k (mk L) = some true) : ∀ p ∈ Sp.splitC 46 [] L, Atom p := by
  unfold addr_Dotted.f at h
  rw [size_mk, if_pos (by omega)] at h
  unfold Sp.parts at h
  rw [data_mk] at h
  intro p hp
  have hq := allP_each _ h (mk p) (List.mem_map.2 ⟨p, hp, rfl⟩)
  have pl := part_len L p hp
  unfold lex_IsAtom.f at hq
  rw [size_mk] at hq
  have := isAtom_atm p (by omega) p.length k 0 (Nat.zero_add _) hq
  rw [List.drop_zero] at this
  exact this
theorem quote_run (x : List UInt8) (hx : x.length < 1000000) (hp : ∀ c ∈ x, plainB c = true) : ∀ (n i k : Nat), i + n = x.length → 2 * n + 2 < k →
    lex_Quote.l0 k (mk x) (nn (34 :: esq (x.take i))) (x.length : Int) (i : Int) = some (mk (34 :: esq x ++ [34]))
  | 0, i, k, hi, hk => by
    obtain ⟨k, rfl⟩ : ∃ j, k = j + 1 := ⟨k - 1, by omega⟩
    have l1 := esq_len x
    rw [lex_Quote.l0, if_neg (by omega), List.take_of_length_le (by omega), nn_len, if_pos (by simp <;> omega), show ([34] : List Int) = [(((34 : UInt8)).toNat : Int)] from rfl, nn_snoc, str_nn]
  | n + 1, i, k, hi, hk => by
    obtain ⟨k, rfl⟩ : ∃ j, k = j + 2 := ⟨k - 2, by omega⟩
    have hin : i < x.length := by omega
    have l1 := esq_len (x.take i)
    rw [List.length_take, Nat.min_eq_left (by omega)] at l1
    have ih := quote_run x hx hp n (i + 1) k (by omega) (by omega)
    have ih1 := quote_run x hx hp n (i + 1) (k + 1) (by omega) (by omega)
    have hc := hp x[i] (List.getElem_mem _)
    have htk : x.take (i + 1) = x.take i ++ [x[i]] := by rw [List.take_add_one, List.getElem?_eq_getElem hin]; rfl
    rw [htk, esq_app] at ih ih1
    have hn : (nn (34 :: esq (x.take i))).length < 100000000 := by rw [nn_len, List.length_cons]; omega
    have e1 : esq [x[i]] = esc1 x[i] := by simp [esq]
    rw [e1] at ih ih1
    have key : lex_Quote.j1 (k + 1) (mk x) (nn (34 :: esq (x.take i))) ((x[i]).toNat : Int) (x.length : Int) (i : Int) (decide (x[i] = 34 ∨ x[i] = 92)) = some (mk (34 :: esq x ++ [34])) := by
      rw [lex_Quote.j1, wr1 i (by omega)]
      by_cases hq : x[i] = 34 ∨ x[i] = 92
      · rw [decide_eq_true hq, if_pos rfl, if_pos (by omega), Option.bind_some, if_pos (by simp <;> omega), show ([92] : List Int) = [(((92 : UInt8)).toNat : Int)] from rfl, nn_snoc, nn_snoc]
        rw [show esc1 x[i] = [92, x[i]] from if_pos hq] at ih
        simpa using ih
      · rw [decide_eq_false hq, if_neg (by decide), text_plain _ hc, Option.bind_some, if_pos rfl, if_pos (by omega), nn_snoc]
        rw [show esc1 x[i] = [x[i]] from if_neg hq] at ih
        simpa using ih
    rw [lex_Quote.l0, if_pos (by omega), if_pos (by omega), size_mk, if_pos (by omega), bt_mk x i hin]
    by_cases h34 : x[i] = 34
    · rw [if_pos (by rw [h34]; rfl)]
      rw [decide_eq_true (Or.inl h34)] at key
      exact key
    · have n34 : (x[i]).toNat ≠ 34 := fun h => h34 (UInt8.toNat_inj.1 h)
      rw [if_neg (by omega)]
      have : decide (x[i] = 34 ∨ x[i] = 92) = (((x[i]).toNat : Int) == 92) := by
        by_cases h92 : x[i] = 92
        · rw [decide_eq_true (Or.inr h92), h92]; rfl
        · have n92 : (x[i]).toNat ≠ 92 := fun h => h92 (UInt8.toNat_inj.1 h)
          rw [decide_eq_false (by rintro (h | h) <;> contradiction)]
          symm
          rw [beq_eq_false_iff_ne]
          omega
      rw [this] at key
      exact key
theorem quote_is (x : List UInt8) (hx : x.length < 1000000) (hp : ∀ c ∈ x, plainB c = true) (k : Nat) (hk : 2 * x.length + 2 < k) : lex_Quote.f k (mk x) = some (mk (34 :: esq x ++ [34])) := by
  have := quote_run x hx hp x.length 0 k (Nat.zero_add _) hk
  rw [List.take_zero] at this
  unfold lex_Quote.f
  rw [size_mk]
  exact this
theorem labelled_all : (List.range 256).all (fun n => decide (addr_labelled.f (n : Int) = some true → (lex_atomic.f (n : Int)).getD false = true)) = true := by decide +kernel
theorem label_atm (x : List UInt8) (hx : x.length < 1000000) : ∀ (n k i : Nat), i + n = x.length → addr_label.l0 k (mk x) (x.length : Int) (i : Int) = some true → x ≠ [] ∧ ∀ c ∈ x.drop i, atm c = true
  | n, 0, i, _, h => by cases h
  | 0, k + 1, i, hi, h => by
    rw [addr_label.l0, if_neg (by omega), toList_mk] at h
    rw [List.drop_of_length_le (by omega)]
    refine ⟨fun h0 => ?_, fun c hc => by cases hc⟩
    rw [if_pos h0] at h
    cases h
  | n + 1, k + 1, i, hi, h => by
    have hin : i < x.length := by omega
    rw [addr_label.l0, if_pos (by omega), if_pos (by omega), size_mk, if_pos (by omega), bt_mk x i hin, wr1 i (by omega)] at h
    obtain ⟨b, hb, h⟩ := Option.bind_eq_some_iff.1 h
    by_cases hbt : b = true
    · rw [if_pos hbt] at h
      rw [hbt] at hb
      have ih := label_atm x hx n k (i + 1) (by omega) h
      refine ⟨ih.1, fun c hc => ?_⟩
      rw [List.drop_eq_getElem_cons hin] at hc
      rcases List.mem_cons.1 hc with rfl | hc
      · exact of_decide_eq_true (List.all_eq_true.1 labelled_all (x[i]).toNat (List.mem_range.2 (x[i]).toNat_lt)) hb
      · exact ih.2 c hc
    · rw [if_neg hbt] at h
      cases h
theorem domain_each {f : ByteArray → Option Bool} : ∀ (l : List ByteArray) (lg : Bool) (c : Int), addr_domain.g f lg l = some c → c ≠ 130 → ∀ y ∈ l, f y = some true
  | [], _, _, _, _, y, hy => by cases hy
  | x :: l, lg, c, h, hc, y, hy => by
    rw [addr_domain.g] at h
    obtain ⟨b, hb, h⟩ := Option.bind_eq_some_iff.1 h
    by_cases hbt : b = true
    · rw [if_pos hbt] at h
      rcases List.mem_cons.1 hy with rfl | hy
      · rw [hb, hbt]
      · exact domain_each l _ c h hc y hy
    · rw [if_neg hbt] at h
      exact absurd (Option.some.inj h).symm hc
theorem domain_atoms (D : List UInt8) (hl : D.length < 1000000) (k : Nat) (c : Int) (h : addr_domain.f k (mk D) = some c) (hc : c ≠ 130) : ∀ p ∈ Sp.splitC 46 [] D, Atom p := by
  unfold addr_domain.f at h
  rw [size_mk, if_pos (by omega)] at h
  unfold Sp.parts at h
  rw [data_mk] at h
  intro p hp
  have hq := domain_each _ _ c h hc (mk p) (List.mem_map.2 ⟨p, hp, rfl⟩)
  have pl := part_len D p hp
  unfold addr_label.f at hq
  rw [size_mk] at hq
  have := label_atm p (by omega) p.length k 0 (Nat.zero_add _) hq
  rw [List.drop_zero] at this
  exact this
/-- What is known of a right address. -/
structure RightAddr (L D : List UInt8) : Prop where
  local0 : L ≠ []
  plain : ∀ c ∈ L, plainB c = true
  small : L.length ≤ 64
  dom : ∀ p ∈ Sp.splitC 46 [] D, Atom p
  fold : glyph_Fold.g (mk D) = mk D
theorem rightAddr (L D : List UInt8) (hL : L.length < 90000) (hD : D.length < 90000) (k : Nat) (h : addr_Addr_Right.f k (mk L) (mk D) = some true) : RightAddr L D ∧ addr_why.f k (mk L) (mk D) = some 0 := by
  unfold addr_Addr_Right.f at h
  obtain ⟨w, hw, h⟩ := Option.bind_eq_some_iff.1 h
  by_cases h0 : w = 0
  · rw [if_pos h0, Ad.gfold (mk D) (by rw [size_mk]; omega), Option.bind_some] at h
    subst h0
    have hf : glyph_Fold.g (mk D) = mk D := by
      have e := eq_of_beq (Option.some.inj h)
      rw [Lib.toList_data, Lib.toList_data] at e
      exact ByteArray.ext (Array.toList_inj.1 e.symm)
    have hw' := hw
    unfold addr_why.f at hw'
    obtain ⟨c, hc, hw'⟩ := Option.bind_eq_some_iff.1 hw'
    match k, hw', hc with
    | 0, hw', _ =>
      exfalso
      rw [addr_why.j0] at hw'
      split at hw'
      · cases hw'
      · split at hw'
        · cases hw'
        · obtain ⟨_, _, hw'⟩ := Option.bind_eq_some_iff.1 hw'
          cases hw'
    | k + 1, hw', hc =>
      have dead : ∀ x3 : Int, addr_why.j0 (k + 1) x3 true (mk L) (mk D) = some 130 := fun x3 => by rw [addr_why.j0, if_pos rfl]
      rw [dead, toList_mk] at hw'
      by_cases hc0 : c = 130
      · rw [if_pos hc0] at hw'; cases hw'
      · rw [if_neg hc0] at hw'
        by_cases hl : L = []
        · rw [if_pos hl] at hw'; cases hw'
        · rw [if_neg hl] at hw'
          unfold glyph_Plain.f at hw'
          rw [size_mk, if_pos (by omega), Option.bind_some] at hw'
          by_cases hp : glyph_Plain.g (mk L) = true
          · rw [hp, addr_why.j0, if_neg (by decide), size_mk] at hw'
            have h64 : L.length ≤ 64 := by
              by_cases hcz : c = 0
              · rw [if_pos hcz] at hw'
                by_cases hh : (L.length : Int) > 64
                · rw [if_pos hh] at hw'; cases hw'
                · omega
              · rw [if_neg hcz] at hw'; cases hw'
            refine ⟨⟨hl, fun x hx => ?_, h64, domain_atoms D (by omega) _ c hc hc0, hf⟩, hw⟩
            unfold glyph_Plain.g at hp
            rw [data_mk] at hp
            exact List.all_eq_true.1 hp x hx
          · rw [(Bool.not_eq_true _).mp hp, show (!false) = true from rfl, dead] at hw'
            cases hw'
  · rw [if_neg h0] at h
    cases h
theorem splitC46 (l : List UInt8) : (Sp.splitC 46 [] l).length ≤ l.length + 1 := splitC_len 46 l []
/-- An address's text, at the level of bytes. -/
def addrL (b : Bool) (L D : List UInt8) : List UInt8 := (if b = true then L else 34 :: esq L ++ [34]) ++ 64 :: D
theorem addrText_is (L D : List UInt8) (hL : L.length < 90000) (hD : D.length < 90000) (hp : ∀ c ∈ L, plainB c = true) (k : Nat) (hk : 2 * L.length + 10 < k) : ∃ b, addr_Dotted.f k (mk L) = some b ∧ addr_Addr_Text.f k (mk L) (mk D) = some (mk (addrL b L D)) := by
  obtain ⟨b, hb⟩ := Ad.dotted_t (mk L) (by rw [size_mk]; omega) k (by rw [size_mk]; omega)
  have l1 := esq_len L
  have e64 : (⟨#[64]⟩ : ByteArray) = mk [64] := rfl
  refine ⟨b, hb, ?_⟩
  unfold addr_Addr_Text.f
  rw [hb, Option.bind_some]
  unfold addrL
  by_cases hbt : b = true
  · rw [if_pos hbt, if_pos hbt, size_mk, size_mk, if_pos (by omega), if_pos (by omega), e64, mk_append, mk_append]
    simp
  · rw [if_neg hbt, if_neg hbt, quote_is L (by omega) hp k (by omega), Option.bind_some, size_mk, size_mk, if_pos (by simp <;> omega), if_pos (by simp <;> omega), e64, mk_append, mk_append]
    simp
theorem parse_text (L D : List UInt8) (hL : L.length < 90000) (hD : D.length < 30000) (K : Nat) (hr : addr_Addr_Right.f K (mk L) (mk D) = some true) (k : Nat) (hk : K + 400000 ≤ k) (b : Bool) (hb : addr_Dotted.f k (mk L) = some b) (t : List UInt8) (ht : t = addrL b L D) :
    addr_Parse.f k (mk t) = some (mk L, mk D, 0) := by
  obtain ⟨R, hw⟩ := rightAddr L D hL (by omega) K hr
  have l1 := esq_len L
  have c1 := splitC46 L
  have c2 := splitC46 D
  have sm := R.small
  have dD : dots (Sp.splitC 46 [] D) = D := dots_split D []
  have dL : dots (Sp.splitC 46 [] L) = L := dots_split L []
  have e46 : (⟨#[46]⟩ : ByteArray) = mk [46] := rfl
  have e64 : (⟨#[64]⟩ : ByteArray) = mk [64] := rfl
  -- the words of the domain
  have sD : ∀ acc : List S158, acc.length < 100000 → ∀ j, 100000 ≤ j → lex_Scan.l0 j (mk D) acc = some (acc ++ toks (Sp.splitC 46 [] D), 0) := fun acc ha j hj => by
    have h := scan_dots (v := (acc ++ toks (Sp.splitC 46 [] D), 0)) [] (fun c hc => by cases hc) 30000 (Sp.splitC 46 [] D) acc (splitC_ne 46 D []) R.dom (by rw [dD]; simp; omega) (by omega) (by rw [dD]; omega) (fun j hj => scan_nil _ _ (by omega)) j (by omega)
    rw [dD, List.append_nil] at h
    exact h
  have sAt : ∀ acc : List S158, acc.length < 90000 → ∀ j, 100001 ≤ j → lex_Scan.l0 j (mk (64 :: D)) acc = some (acc ++ tS 64 :: toks (Sp.splitC 46 [] D), 0) := fun acc ha => by
    have h := scan_step (v := (acc ++ tS 64 :: toks (Sp.splitC 46 [] D), 0)) (s := 64 :: D) (r := D) (t := tS 64) (acc := acc) (K := 100000) (M := 0) (by simp) (fun k _ => next_sign 64 D (Or.inr rfl) (by omega) k) (by decide : (3 : Int) ≠ 0) (by omega) (by simpa using sD (acc ++ [tS 64]) (by simp <;> omega)) (by omega)
    exact h
  have isAt : addr_is.f (tS 64 :: toks (Sp.splitC 46 [] D)) (⟨#[46]⟩ : ByteArray) = some false := by rw [is_cons, at_dot]
  have isAt2 : addr_is.f (tS 64 :: toks (Sp.splitC 46 [] D)) (⟨#[64]⟩ : ByteArray) = some true := by rw [is_cons, at_yes]
  have jD : ∀ j, 100000 ≤ j → addr_joined.f j (toks (Sp.splitC 46 [] D)) true = some (mk D, [], true) := fun j hj => by
    have h := joined_dots true [] (is_nil _) (Sp.splitC 46 [] D) [] j (splitC_ne 46 D []) (by rw [dD]; simp; omega) (by omega)
    rw [dD, List.append_nil, List.nil_append] at h
    exact h
  obtain ⟨l, hs, hj⟩ : ∃ l, lex_Scan.f k (mk t) = some (l, 0) ∧ ∀ j, 100000 ≤ j → addr_joined.f j l false = some (mk L, tS 64 :: toks (Sp.splitC 46 [] D), true) := by
    unfold addrL at ht
    by_cases hbt : b = true
    · rw [if_pos hbt] at ht
      subst hbt
      have hat := dotted_atoms L (by omega) k hb
      refine ⟨toks (Sp.splitC 46 [] L) ++ tS 64 :: toks (Sp.splitC 46 [] D), ?_, fun j hj => ?_⟩
      · have h := scan_dots (v := ([] ++ toks (Sp.splitC 46 [] L) ++ tS 64 :: toks (Sp.splitC 46 [] D), 0)) (64 :: D) (fun c hc => by simp at hc; subst hc; exact atm_at) 100001 (Sp.splitC 46 [] L) [] (splitC_ne 46 L []) hat (by rw [dL]; simp; omega) (by simp <;> omega) (by rw [dL]; omega) (sAt _ (by
          have : ∀ ps : List (List UInt8), (toks ps).length ≤ 2 * ps.length := by
            intro ps
            induction ps with
            | nil => simp [toks]
            | cons p ps ih => cases ps with
              | nil => simp [toks]
              | cons q l => simp only [toks, List.length_cons] at ih ⊢; omega
          have := this (Sp.splitC 46 [] L)
          simp
          omega)) k (by omega)
        rw [dL, ← ht] at h
        simpa [lex_Scan.f] using h
      · have h := joined_dots false (tS 64 :: toks (Sp.splitC 46 [] D)) isAt (Sp.splitC 46 [] L) [] j (splitC_ne 46 L []) (by rw [dL]; simp; omega) (by omega)
        rw [dL, List.nil_append] at h
        exact h
    · rw [if_neg hbt] at ht
      have ht2 : t = 34 :: (esq L ++ 34 :: (64 :: D)) := by rw [ht]; simp
      refine ⟨tQ L :: tS 64 :: toks (Sp.splitC 46 [] D), ?_, fun j hj => ?_⟩
      · have h := scan_step (v := ([] ++ [tQ L] ++ tS 64 :: toks (Sp.splitC 46 [] D), 0)) (s := 34 :: (esq L ++ 34 :: (64 :: D))) (r := 64 :: D) (t := tQ L) (acc := []) (K := 100001) (M := 100000) (by simp) (fun k hk => next_quoted L (64 :: D) R.plain (by simp <;> omega) k (by omega)) (by decide : (2 : Int) ≠ 0) (by simp) (sAt _ (by simp)) (by omega) k (by omega)
        rw [← ht2] at h
        simpa [lex_Scan.f] using h
      · have h := joined_one false (tQ L) (tS 64 :: toks (Sp.splitC 46 [] D)) [] L rfl (Or.inr ⟨rfl, rfl⟩) (by simp <;> omega) isAt j (by omega)
        rw [List.nil_append] at h
        exact h
  unfold addr_Parse.f
  rw [hs, Option.bind_some, if_pos rfl]
  have hO : addr_Of.f k l = some (mk L, mk D, 0) := by
    obtain ⟨k, rfl⟩ : ∃ j, k = j + 2 := ⟨k - 2, by omega⟩
    unfold addr_Of.f
    rw [hj _ (by omega), Option.bind_some, if_pos rfl, isAt2, Option.bind_some, show (!true) = false from rfl, addr_Of.j0, if_neg (by decide), if_pos (by simp <;> omega), List.drop_one, List.tail_cons, jD _ (by omega), Option.bind_some, if_pos rfl, show decide (((([] : List S158)).length : Int) > 0) = false from rfl, addr_Of.j1, if_neg (by decide), Ad.gfold (mk D) (by rw [size_mk]; omega), Option.bind_some, R.fold, up_of (addr_why.mono _ _) hw k (by omega), Option.bind_some, if_pos rfl]
  rw [hO, Option.bind_some]
end Go.Proofs.YtcpmoolpbeeedaaGreatDoor.Q
