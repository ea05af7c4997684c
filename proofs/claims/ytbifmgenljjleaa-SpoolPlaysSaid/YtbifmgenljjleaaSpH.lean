/- The spool's plain law: keys once, what was there stays. -/
import Derived.Test.YtbifmgenljjleaaSpG
namespace Go.Proofs.Ytbifmgenljjleaa.Sp
open Go Go.RowKit Go.Maps Go.WideMaps Go.WideShapes Go.Proofs.YtbifmgenljjleaaW.PrintWords

theorem snoc_ind {α : Type} {P : List α → Prop} (nil : P []) (snoc : ∀ (l : List α) (a : α), P l → P (l ++ [a])) (l : List α) : P l := by
  have h : ∀ m : List α, P m.reverse := by
    intro m
    induction m with
    | nil => exact nil
    | cons a m ih => rw [List.reverse_cons]; exact snoc _ _ ih
  have := h l.reverse
  rwa [List.reverse_reverse] at this
def E.k (e : E) : List UInt8 := e.key.data.toList
/-- No key twice. -/
def Uniq (l : List E) : Prop := (l.map E.k).Nodup
theorem isMap_mapD (l : List E) : IsMap (mapD l) := by
  induction l using snoc_ind with
  | nil => exact isMap_empty
  | snoc l e ih => rw [mapD_snoc]; exact ih.put _ _
theorem has_mapD (k : List UInt8) (l : List E) : has (mapD l) (.string k) = l.any (fun e => e.k == k) := by
  induction l using snoc_ind with
  | nil => rfl
  | snoc l e ih =>
    rw [mapD_snoc, List.any_append]
    by_cases h : e.k = k
    · rw [← h, show Lit.string e.key.data.toList = Lit.string e.k from rfl, has_put_same (isMap_mapD l) (by trivial)]
      simp
    · rw [has_put_other (fun e1 => h (by injection e1 with e2; exact e2.symm)), ih]
      simp [h]
theorem at_mapD (l : List E) (hu : Uniq l) (i : Nat) (hi : i < l.length) (z : DataW Unit) : (mapD l).atKey (.string l[i].key.data.toList) z = .lit (.int .i64 (i : Int)) := by
  induction l using snoc_ind generalizing i with
  | nil => simp at hi
  | snoc l e ih =>
    have hu1 : Uniq l := by
      unfold Uniq at hu ⊢
      rw [List.map_append] at hu
      exact (List.nodup_append.1 hu).1
    rw [mapD_snoc]
    by_cases h : i < l.length
    · have e1 : (l ++ [e])[i] = l[i] := List.getElem_append_left h
      rw [e1, atKey_put_other, ih hu1 i h]
      intro e2
      injection e2 with e3
      unfold Uniq at hu
      rw [List.map_append, List.nodup_append] at hu
      exact hu.2.2 l[i].k (List.mem_map.2 ⟨_, List.getElem_mem h, rfl⟩) e.k (by simp) e3
    · have e0 : i = l.length := by simp at hi; omega
      subst e0
      have e1 : (l ++ [e])[l.length] = e := by simp
      rw [e1, atKey_put_same (isMap_mapD l) (by trivial)]
theorem put_uniq {l : List E} (h : Uniq l) (r : Bool) (e : E) : Uniq (putList l r e) := by
  unfold putList
  split
  · exact h
  split
  · exact h
  split
  · exact h
  · rename_i hn
    unfold Uniq at h ⊢
    rw [List.map_append, List.nodup_append]
    refine ⟨h, by simp, ?_⟩
    intro a ha b hb
    obtain ⟨x, hx, rfl⟩ := List.mem_map.1 ha
    simp at hb
    subst hb
    intro e1
    apply hn
    unfold lies
    rw [show e.key.data.toList = e.k from rfl, has_mapD]
    exact List.any_eq_true.2 ⟨x, hx, by simpa using e1⟩
theorem put_more (l : List E) (r : Bool) (e : E) : ∃ s, putList l r e = l ++ s ∧ s.length ≤ 1 := by
  unfold putList
  split
  · exact ⟨[], by simp⟩
  split
  · exact ⟨[], by simp⟩
  split
  · exact ⟨[], by simp⟩
  · exact ⟨[e], by simp⟩
theorem put_there_then (l : List E) (r : Bool) (e : E) (h : putCode l r e = 0) : (putList l r e).any (fun x => x.k == e.k) = true := by
  unfold putCode at h
  cases r with
  | true => simp at h
  | false =>
    have hk : (e.key.toList == ([] : List UInt8)) = false := by
      cases h1 : (e.key.toList == ([] : List UInt8)) with
      | false => rfl
      | true => rw [h1] at h; simp at h
    unfold putList
    rw [hk]
    cases h2 : lies l e with
    | true =>
      unfold lies at h2
      rw [show e.key.data.toList = e.k from rfl, has_mapD] at h2
      simpa using h2
    | false => simp
theorem A.list_uniq {l : List E} (h : Uniq l) (r : Bool) (a : A) : Uniq (a.list l r) := by
  unfold A.list
  split
  · exact put_uniq h r a.e
  · exact h
theorem A.list_more (l : List E) (r : Bool) (a : A) : ∃ s, a.list l r = l ++ s ∧ s.length ≤ 1 := by
  unfold A.list
  split
  · exact put_more l r a.e
  · exact ⟨[], by simp⟩
/-- The mail of a key, or none. -/
def E.zero : E := ⟨⟨#[]⟩, ⟨#[]⟩, ⟨#[]⟩, ⟨#[]⟩⟩
def findL (l : List E) (k : List UInt8) : E := (l.find? (fun e => e.k == k)).getD E.zero
def isL (l : List E) (k : List UInt8) : Bool := l.any (fun e => e.k == k)
def E.agg (e : E) : Value := .agg #[.string e.key, .string e.fr, .string e.dest, .string e.text]
theorem find_any {B : Nat} {w : World} {g bm : Nat} {v : Value} {l : List E} {r : Bool} (h : St B w g bm v l r) (hu : Uniq l) (key : ByteArray) (hk : key.size ≤ maxLen) :
    Calls Try.prog 9 #[.pointer (some ⟨g, 0, none⟩), .string key] w fun e w' => e = .returned (.tuple #[.agg #[.string (findL l key.data.toList).key, .string (findL l key.data.toList).fr, .string (findL l key.data.toList).dest, .string (findL l key.data.toList).text], .bool (isL l key.data.toList)]) ∧ Below w.heap.size w w' := by
  cases hn : has (mapD l) (.string key.data.toList) with
  | false =>
    have h1 : isL l key.data.toList = false := by rw [has_mapD] at hn; exact hn
    have h2 : findL l key.data.toList = E.zero := by
      unfold findL
      rw [List.find?_eq_none.2]
      · rfl
      · intro x hx
        unfold isL at h1
        exact fun e => by have := List.any_eq_false.1 h1 x hx; exact this e
    rw [h1, h2]
    exact find_none h key hk hn
  | true =>
    have h1 : isL l key.data.toList = true := by rw [has_mapD] at hn; exact hn
    obtain ⟨x, hx, hxk⟩ := List.any_eq_true.1 h1
    have h3 : (l.find? (fun e => e.k == key.data.toList)).isSome = true := List.find?_isSome.2 ⟨x, hx, hxk⟩
    obtain ⟨y, hy⟩ := Option.isSome_iff_exists.1 h3
    have hyk := List.find?_some hy
    obtain ⟨i, hi, hyi⟩ := List.getElem_of_mem (List.mem_of_find?_eq_some hy)
    have h2 : findL l key.data.toList = l[i] := by unfold findL; rw [hy, hyi]; rfl
    rw [h1, h2]
    refine find_some h key hk hn i hi ?_
    have e1 : key.data.toList = l[i].key.data.toList := by rw [hyi]; exact (by simpa using hyk : y.k = key.data.toList).symm
    rw [e1]
    exact at_mapD l hu i hi _
/-- What the law looks at behind each call: a key that was put is there. -/
theorem there_ok {l : List E} {r : Bool} {a : A} (h0 : a.kind = 0) (h : a.code l r = 0) : isL (a.list l r) a.e.k = true ∧ (findL (a.list l r) a.e.k).k = a.e.k := by
  have h1 : isL (a.list l r) a.e.k = true := by
    unfold A.code at h
    rw [if_pos h0] at h
    unfold A.list isL
    rw [if_pos h0]
    exact put_there_then l r a.e h
  refine ⟨h1, ?_⟩
  obtain ⟨x, hx, hxk⟩ := List.any_eq_true.1 h1
  have h3 : ((a.list l r).find? (fun e => e.k == a.e.k)).isSome = true := List.find?_isSome.2 ⟨x, hx, hxk⟩
  obtain ⟨y, hy⟩ := Option.isSome_iff_exists.1 h3
  have hyk := List.find?_some hy
  unfold findL
  rw [hy]
  simpa using hyk
theorem uniq_ne {l : List E} (h : Uniq l) {i j : Nat} (hi : i < l.length) (hj : j < i) : l[j].key ≠ l[i].key := by
  intro e
  unfold Uniq at h
  have h1 := List.pairwise_iff_getElem.1 h j i (by simp; omega) (by simp; omega) hj
  apply h1
  simp [E.k, e]
/-- The acts of a row, the first k of them. -/
def plays (acts : List A) (s : List E × Bool) : List E × Bool := acts.foldl (fun s a => (a.list s.1 s.2, a.ref s.2)) s
theorem plays_snoc (acts : List A) (a : A) (s : List E × Bool) : plays (acts ++ [a]) s = (a.list (plays acts s).1 (plays acts s).2, a.ref (plays acts s).2) := by
  unfold plays
  rw [List.foldl_append]
  rfl
end Go.Proofs.Ytbifmgenljjleaa.Sp
