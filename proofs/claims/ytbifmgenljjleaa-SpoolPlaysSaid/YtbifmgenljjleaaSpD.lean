/- The spool: Put told as one. -/
import Derived.Test.YtbifmgenljjleaaSpC
namespace Go.Proofs.Ytbifmgenljjleaa.Sp
open Go Go.RowKit Go.Maps Go.WideMaps Go.Proofs.YtbifmgenljjleaaW.PrintWords

/-- Whether a mail of this key lies in the spool. -/
def lies (l : List E) (e : E) : Bool := has (mapD l) (.string e.key.data.toList)
def putCode (_ : List E) (r : Bool) (e : E) : Int := if r then 430 else if e.key.toList == [] then 3 else 0
def putList (l : List E) (r : Bool) (e : E) : List E := if r then l else if e.key.toList == [] then l else if lies l e then l else l ++ [e]
/-- What a spool's way leaves as it was. -/
def Foot (w : World) (g bm : Nat) (v : Value) (w' : World) (v' : Value) : Prop :=
  Kept w w' (fun k => k = g ∨ k = bm ∨ v.ownBlock = some k) ∧ ∀ k, v'.ownBlock = some k → v.ownBlock = some k ∨ w.heap.size ≤ k
theorem St.ofBelow {B : Nat} {w w' : World} {g bm : Nat} {v : Value} {l : List E} {r : Bool} (h : St B w g bm v l r) (hk : Below w.heap.size w w') : St B w' g bm v l r :=
  h.kept (Kept.of_below hk (fun _ => False)) id id (fun _ _ => id)
theorem foot_below {w w' : World} {g bm : Nat} {v : Value} (h : Below w.heap.size w w') : Foot w g bm v w' v :=
  ⟨Kept.of_below h _, fun _ hk => .inl hk⟩
theorem St.foot {B : Nat} {w w0 w' : World} {g bm : Nat} {v : Value} {l : List E} {r : Bool} (h : St B w g bm v l r) (hB0 : Below B w0 w) (hos : w'.os = w.os ∧ w'.tape = w.tape ∧ w'.output = w.output) (hB : B ≤ w.heap.size)
    (hk : Kept w w' (fun k => k = g ∨ k = bm ∨ v.ownBlock = some k)) : Below B w0 w' := by
  refine hB0.trans ⟨hos.1, hos.2.1, hos.2.2, hk.1, fun k hkB => hk.2 k (by omega) ?_⟩
  rintro (e | e | e)
  · have := h.g0; omega
  · have := h.bm0; omega
  · have := (h.row.lt k e).1; omega
theorem put_any {B : Nat} {w w0 : World} {g bm : Nat} {v : Value} {l : List E} {r : Bool} (h : St B w g bm v l r) (hB0 : Below B w0 w) (hB : B ≤ w.heap.size) (e : E) (hk : e.key.size ≤ maxLen) (hl : l.length < 1000000) :
    Calls Try.prog 12 #[.pointer (some ⟨g, 0, none⟩), .agg #[.string e.key, .string e.fr, .string e.dest, .string e.text]] w fun x w' => ∃ v', x = .returned (.int .i64 (putCode l r e)) ∧ St B w' g bm v' (putList l r e) r ∧ Below B w0 w' ∧ Foot w g bm v w' v' := by
  have old : ∀ {w' : World}, Below w.heap.size w w' → St B w' g bm v l r ∧ Below B w0 w' ∧ Foot w g bm v w' v := fun hb => ⟨h.ofBelow hb, hB0.trans (hb.mono hB), foot_below hb⟩
  cases r with
  | true =>
    refine (put_refused h e).mono fun x w' hx => ?_
    exact ⟨v, hx.1, old hx.2⟩
  | false =>
    by_cases he : e.key.toList = []
    · have he' : e.key = ⟨#[]⟩ := by
        have h1 : e.key.data.toList = [] := by rw [← Lib.toList_data]; exact he
        cases e with
        | mk key fr dest text =>
          cases key with
          | mk d =>
            congr 1
            cases d with
            | mk ll => simp_all
      refine (put_empty h e he').mono fun x w' hx => ?_
      have o := old hx.2
      refine ⟨v, ?_, ?_, o.2⟩
      · rw [hx.1]; simp [putCode, he]
      · simpa [putList, he] using o.1
    · have hf : (e.key.toList == ([] : List UInt8)) = false := by simpa using he
      cases hn : has (mapD l) (.string e.key.data.toList) with
      | true =>
        refine (put_there h e hf hk hn).mono fun x w' hx => ?_
        have o := old hx.2
        refine ⟨v, ?_, ?_, o.2⟩
        · rw [hx.1]; simp [putCode, he]
        · have : lies l e = true := hn
          simpa [putList, he, this] using o.1
      | false =>
        refine (put_new h hB e hf hk hn hl).mono fun x w' hx => ?_
        obtain ⟨hr, v', hS, hos, hkp, hv⟩ := hx
        refine ⟨v', ?_, ?_, h.foot hB0 hos hB hkp, hkp, hv⟩
        · rw [hr]; simp [putCode, he]
        · have : lies l e = false := hn
          simpa [putList, he, this] using hS
end Go.Proofs.Ytbifmgenljjleaa.Sp
