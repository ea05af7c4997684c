/- The spool: the document's keys and the program's are the same row. -/
import Derived.Test.YtbifmgenljjleaaSpKR
import Derived.Test.YtbifmgenljjleaaQ3
import Derived.Sort.Walk0
namespace Go.Proofs.Ytbifmgenljjleaa.Sp
open Go Go.RowKit Go.Maps Go.WideMaps Go.Sort Go.Proofs.YtbifmgenljjleaaW.PrintWords Go.Proofs.Ytbifmgenljjleaa.Q

theorem ins_nil (k : List UInt8) : ins k [] = [k] := rfl
theorem ins_cons (k x : List UInt8) (xs : List (List UInt8)) : ins k (x :: xs) = if x < k then x :: ins k xs else k :: x :: xs := by
  unfold ins ahead_
  rw [List.takeWhile_cons, bytesLess_eq]
  by_cases h : x < k
  · simp [h]
  · simp [h]
theorem ins_perm (k : List UInt8) (ss : List (List UInt8)) : (ins k ss).Perm (k :: ss) := by
  induction ss with
  | nil => exact List.Perm.refl _
  | cons x xs ih =>
    rw [ins_cons]
    split
    · exact (ih.cons x).trans (List.Perm.swap k x xs)
    · exact List.Perm.refl _
theorem ins_sorted (k : List UInt8) (ss : List (List UInt8)) (h : ss.Pairwise (· ≤ ·)) : (ins k ss).Pairwise (· ≤ ·) := by
  induction ss with
  | nil => simp [ins_nil]
  | cons x xs ih =>
    obtain ⟨h1, h2⟩ := List.pairwise_cons.1 h
    rw [ins_cons]
    split
    · rename_i hx
      refine List.pairwise_cons.2 ⟨fun y hy => ?_, ih h2⟩
      rcases List.mem_cons.1 ((ins_perm k xs).subset hy) with rfl | hy
      · exact List.le_of_lt hx
      · exact h1 y hy
    · rename_i hx
      have hkx : k ≤ x := List.not_lt.1 hx
      refine List.pairwise_cons.2 ⟨fun y hy => ?_, h⟩
      rcases List.mem_cons.1 hy with rfl | hy
      · exact hkx
      · exact List.le_trans hkx (h1 y hy)
theorem fold_ins (l : List (List UInt8)) : ∀ ss : List (List UInt8), ss.Pairwise (· ≤ ·) → (l.foldl (fun ss k => ins k ss) ss).Pairwise (· ≤ ·) ∧ (l.foldl (fun ss k => ins k ss) ss).Perm (l ++ ss) := by
  induction l with
  | nil => exact fun ss h => ⟨h, List.Perm.refl _⟩
  | cons k l ih =>
    intro ss h
    obtain ⟨h1, h2⟩ := ih (ins k ss) (ins_sorted k ss h)
    refine ⟨h1, h2.trans ?_⟩
    exact ((ins_perm k ss).append_left l).trans List.perm_middle
theorem rk_eq (l : List E) (p : List UInt8) : rk l p = sorted (kf l p) := by
  obtain ⟨h1, h2⟩ := fold_ins (kf l p) [] List.Pairwise.nil
  have tr : ∀ a b c : List UInt8, decide (a ≤ b) = true → decide (b ≤ c) = true → decide (a ≤ c) = true := fun a b c h1 h2 => by simp only [decide_eq_true_eq] at *; exact List.le_trans h1 h2
  have tot : ∀ a b : List UInt8, (decide (a ≤ b) || decide (b ≤ a)) = true := fun a b => by simp only [Bool.or_eq_true, decide_eq_true_eq]; exact List.le_total a b
  refine List.Perm.eq_of_pairwise (le := (· ≤ ·)) (fun a b _ _ ha hb => List.le_antisymm ha hb) h1 ?_ ?_
  · have := List.pairwise_mergeSort (le := fun x y : List UInt8 => decide (x ≤ y)) tr tot (kf l p)
    exact this.imp (fun h => by simpa using h)
  · rw [List.append_nil] at h2
    exact h2.trans (List.mergeSort_perm (kf l p) _).symm
/-! What the document's printed words answer. -/
theorem find_take {l : List E} {k : List UInt8} {i : Nat} (hi : i < l.length) (h : ∀ j (hj : j < i), (l[j]'(by omega)).k ≠ k) (he : l[i].k = k) : findL l k = l[i] ∧ isL l k = true := by
  have h1 : l.find? (fun e => e.k == k) = some l[i] := by
    rw [List.find?_eq_some_iff_getElem]
    refine ⟨by simpa using he, i, hi, rfl, fun j hj => ?_⟩
    simpa using h j hj
  refine ⟨by unfold findL; rw [h1]; rfl, ?_⟩
  exact List.any_eq_true.2 ⟨l[i], List.getElem_mem hi, by simpa using he⟩
theorem find_no {l : List E} {k : List UInt8} (h : ∀ j (hj : j < l.length), l[j].k ≠ k) : findL l k = E.zero ∧ isL l k = false := by
  have h2 : ∀ x ∈ l, ¬ (x.k == k) = true := fun x hx => by
    obtain ⟨i, hi, rfl⟩ := List.getElem_of_mem hx
    simpa using h i hi
  exact ⟨by unfold findL; rw [List.find?_eq_none.2 h2]; rfl, by unfold isL; rw [List.any_eq_false]; exact h2⟩
def E.s29 (e : E) : S29 := ⟨e.key, e.fr, e.dest, e.text⟩
def E.s34 (e : E) : S34 := ⟨e.key, e.fr, e.dest, e.text⟩
theorem rd29 (l : List E) (i : Nat) (hi : i < l.length) : rd_T29 (l.map E.s29) (i : Int) = l[i].s29 := by
  unfold rd_T29
  rw [Int.toNat_natCast, List.getD_eq_getElem?_getD, List.getElem?_map, List.getElem?_eq_getElem hi]
  rfl
theorem rd34 (l : List E) (i : Nat) (hi : i < l.length) : rd_T34 (l.map E.s34) (i : Int) = l[i].s34 := by
  unfold rd_T34
  rw [Int.toNat_natCast, List.getD_eq_getElem?_getD, List.getElem?_map, List.getElem?_eq_getElem hi]
  rfl
theorem wrap_succ (i : Nat) (h : i < 1000000) : wrap64 ((i : Int) + 1) = ((i + 1 : Nat) : Int) := by
  unfold wrap64
  omega
theorem same_l0 (l : List E) (hl : l.length < 1000000) : ∀ (m i k : Nat), l.length - i = m → i ≤ l.length → m < k → bulletinlaw43_Same.l0 k (l.map E.s34) (l.map E.s29) true (i : Int) = some true
  | 0, i, k + 1, hm, hi, _ => by
    have e : i = l.length := by omega
    subst e
    simp [bulletinlaw43_Same.l0]
  | m + 1, i, k + 1, hm, hi, hk => by
    have h1 : i < l.length := by omega
    have ih := same_l0 l hl m (i + 1) k (by omega) (by omega) (by omega)
    unfold bulletinlaw43_Same.l0
    rw [if_pos rfl, if_pos (by rw [List.length_map]; omega), if_pos (by rw [List.length_map]; omega), if_pos (by omega), rd29 l i h1, rd34 l i h1, wrap_succ i (by omega)]
    simp only [bulletinlaw43_To.f, Option.bind_some, E.s29, E.s34, beq_self_eq_true, Bool.and_self]
    exact ih
theorem same_f (l : List E) (hl : l.length < 1000000) : bulletinlaw43_Same.f 2000000 (l.map E.s34) (l.map E.s29) = some true := by
  unfold bulletinlaw43_Same.f
  have e : (((l.map E.s34).length : Int) == ((l.map E.s29).length : Int)) = true := by simp
  rw [e]
  exact same_l0 l hl l.length 0 2000000 (by omega) (Nat.zero_le _) (by omega)
theorem find_l0 (l : List E) (hl : l.length < 1000000) (key : ByteArray) (b : Bool) : ∀ (m i k : Nat), l.length - i = m → i ≤ l.length → m < k → (∀ j (_hj : j < i) (h2 : j < l.length), l[j].k ≠ key.data.toList) →
    bulletinref43_Find.l0 k key (i : Int) (l.map E.s29) b = some ((findL l key.data.toList).key, (findL l key.data.toList).fr, (findL l key.data.toList).dest, (findL l key.data.toList).text, isL l key.data.toList)
  | 0, i, k + 1, hm, hi, _, hno => by
    have e : i = l.length := by omega
    subst e
    have h := find_no (l := l) (k := key.data.toList) (fun j hj => hno j hj hj)
    rw [h.1, h.2]
    unfold bulletinref43_Find.l0
    rw [if_neg (by rw [List.length_map]; omega)]
    rfl
  | m + 1, i, k + 1, hm, hi, hk, hno => by
    have h1 : i < l.length := by omega
    unfold bulletinref43_Find.l0
    rw [if_pos (by rw [List.length_map]; omega), if_pos (by omega), rd29 l i h1, wrap_succ i (by omega)]
    by_cases he : l[i].s29.f0.toList = key.toList
    · rw [if_pos he]
      have h := find_take h1 (fun j hj => hno j hj (by omega)) (by rw [Lib.toList_data, Lib.toList_data] at he; exact he)
      rw [h.1, h.2]
      rfl
    · rw [if_neg he]
      refine find_l0 l hl key b m (i + 1) k (by omega) (by omega) (by omega) (fun j hj h2 => ?_)
      rcases Nat.lt_or_ge j i with h3 | h3
      · exact hno j h3 h2
      · obtain rfl : j = i := by omega
        intro e
        apply he
        rw [Lib.toList_data, Lib.toList_data]
        exact e
theorem find_f (l : List E) (hl : l.length < 1000000) (key : ByteArray) (b : Bool) : bulletinref43_Find.f 2000000 (l.map E.s29) b key = some ((findL l key.data.toList).key, (findL l key.data.toList).fr, (findL l key.data.toList).dest, (findL l key.data.toList).text, isL l key.data.toList) :=
  find_l0 l hl key b l.length 0 2000000 (by omega) (Nat.zero_le _) (by omega) (fun j hj => absurd hj (Nat.not_lt_zero _))
theorem put_f (l : List E) (hl : l.length < 1000000) (e : E) (r : Bool) : bulletinref43_Put.f 2000000 (l.map E.s29) r e.key e.fr e.dest e.text = some ((putList l r e).map E.s29, r, putCode l r e) := by
  unfold bulletinref43_Put.f putList putCode
  cases r with
  | true => simp
  | false =>
    rw [if_neg (by simp)]
    by_cases he : e.key.toList = ([] : List UInt8)
    · simp [he]
    · have he' : (e.key.toList == ([] : List UInt8)) = false := by simpa using he
      rw [if_neg he, find_f l hl]
      have hli : lies l e = isL l e.key.data.toList := by unfold lies; rw [has_mapD]; rfl
      simp only [Option.bind_some, he', hli]
      cases h : isL l e.key.data.toList with
      | true => simp
      | false =>
        simp only [Bool.false_eq_true, if_false, List.nil_append, List.length_nil, Nat.zero_add, List.length_map, List.length_singleton]
        rw [if_pos (by omega), if_pos (by omega)]
        simp [E.s29]
theorem texts_l0 (l : List ByteArray) (hl : l.length < 1000000) : ∀ (m i k : Nat), l.length - i = m → i ≤ l.length → m < k → bulletinbook_SameTexts.l0 k l l true (i : Int) = some true
  | 0, i, k + 1, hm, hi, _ => by
    have e : i = l.length := by omega
    subst e
    simp [bulletinbook_SameTexts.l0]
  | m + 1, i, k + 1, hm, hi, hk => by
    have ih := texts_l0 l hl m (i + 1) k (by omega) (by omega) (by omega)
    unfold bulletinbook_SameTexts.l0
    rw [if_pos rfl, if_pos (by omega), if_pos (by omega), if_pos (by omega), wrap_succ i (by omega)]
    simp only [beq_self_eq_true]
    exact ih
theorem texts_f (l : List ByteArray) (hl : l.length < 1000000) : bulletinbook_SameTexts.f 2000000 l l = some true := by
  unfold bulletinbook_SameTexts.f
  simp only [beq_self_eq_true]
  exact texts_l0 l hl l.length 0 2000000 (by omega) (Nat.zero_le _) (by omega)
end Go.Proofs.Ytbifmgenljjleaa.Sp
