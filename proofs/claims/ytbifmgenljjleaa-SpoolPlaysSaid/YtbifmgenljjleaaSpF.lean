/- The spool's law: act. -/
import Derived.Test.YtbifmgenljjleaaSpE
namespace Go.Proofs.Ytbifmgenljjleaa.Sp
open Go Go.RowKit Go.Maps Go.WideMaps Go.Proofs.YtbifmgenljjleaaW.PrintWords

/-- A call: Kind, its mail, whether to refuse. -/
structure A where
  kind : Int
  e : E
  is : Bool
def A.cells (a : A) : List Value := [.int .i64 a.kind, .string a.e.key, .string a.e.fr, .string a.e.dest, .string a.e.text, .bool a.is]
def A.code (l : List E) (r : Bool) (a : A) : Int := if a.kind = 0 then putCode l r a.e else 0
def A.list (l : List E) (r : Bool) (a : A) : List E := if a.kind = 0 then putList l r a.e else l
def A.ref (r : Bool) (a : A) : Bool := if a.kind = 0 then r else a.is
set_option maxRecDepth 100000 in
set_option maxHeartbeats 4000000 in
theorem act_any {B : Nat} {w w0 : World} {g bm : Nat} {v : Value} {l : List E} {r : Bool} (h : St B w g bm v l r) (hB0 : Below B w0 w) (hB : B ≤ w.heap.size) (a : A) (hk : a.e.key.size ≤ maxLen) (hl : l.length < 1000000) :
    Calls Try.prog 7 #[.pointer (some ⟨g, 0, none⟩), .agg #[.int .i64 a.kind, .string a.e.key, .string a.e.fr, .string a.e.dest, .string a.e.text, .bool a.is]] w fun x w' => ∃ v', x = .returned (.int .i64 (a.code l r)) ∧ St B w' g bm v' (a.list l r) (a.ref r) ∧ Below B w0 w' ∧ Foot w g bm v w' v' := by
  by_cases h0 : a.kind = 0
  · have e1 : a.code l r = putCode l r a.e := by simp [A.code, h0]
    have e2 : a.list l r = putList l r a.e := by simp [A.list, h0]
    have e3 : a.ref r = r := by simp [A.ref, h0]
    rw [e1, e2, e3]
    have bA := (Below.refl w.heap.size w).alloc (Nat.le_refl _) (Obj.cells #[.int .i64 0, .string a.e.key, .string a.e.fr, .string a.e.dest, .string a.e.text, .bool a.is] 31)
    go_enter Try.func7, Try.ntmps7
    go_wp2_with (first
      | (go_at_call 13; refine (to_any a.e).mono ?_; rintro e w1 ⟨rfl, hb1⟩)
      | (have b1 := bA.trans (hb1.mono (by simp)); go_at_call 12; refine (put_any (h.ofBelow b1) (hB0.trans (b1.mono hB)) (Nat.le_trans hB b1.size) a.e hk hl).mono ?_; rintro e w2 ⟨v', rfl, hS2, hB2, hF2⟩))
    go_ret
    have b2 := bA.trans (hb1.mono (by simp))
    exact ⟨v', rfl, hS2, hB2, ⟨Nat.le_trans b2.size hF2.1.1, fun k hk hS => (hF2.1.2 k (Nat.lt_of_lt_of_le hk b2.size) hS).trans (b2.block k hk)⟩, fun k hk => (hF2.2 k hk).imp id (fun h => Nat.le_trans b2.size h)⟩
  · have e1 : a.code l r = 0 := by simp [A.code, h0]
    have e2 : a.list l r = l := by simp [A.list, h0]
    have e3 : a.ref r = a.is := by simp [A.ref, h0]
    rw [e1, e2, e3]
    have bA := (Below.refl w.heap.size w).alloc (Nat.le_refl _) (Obj.cells #[.int .i64 a.kind, .string a.e.key, .string a.e.fr, .string a.e.dest, .string a.e.text, .bool a.is] 31)
    go_enter Try.func7, Try.ntmps7
    go_wp2_with (go_at_call 14; refine (refuse_any (h.ofBelow bA) (hB0.trans (bA.mono hB)) a.is).mono ?_; rintro e w2 ⟨rfl, hS2, hB2, hK2⟩)
    go_ret
    exact ⟨v, rfl, hS2, hB2, ⟨Nat.le_trans bA.size hK2.1, fun k hk hS => (hK2.2 k (Nat.lt_of_lt_of_le hk bA.size) (fun e => hS (.inl e))).trans (bA.block k hk)⟩, fun k hk => .inl hk⟩
end Go.Proofs.Ytbifmgenljjleaa.Sp
