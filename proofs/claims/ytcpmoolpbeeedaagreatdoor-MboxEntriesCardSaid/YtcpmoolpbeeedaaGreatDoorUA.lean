import Derived.Test.YtcpmoolpbeeedaaGreatDoorQ19
import Derived.Test.YtcpmoolpbeeedaaGreatDoorQ4
namespace Go.Proofs.YtcpmoolpbeeedaaGreatDoor.Q
open Go.RowKit Go.Proofs.YtcpmoolpbeeedaaGreatDoorW.PrintWords Go.Proofs.YtcpmoolpbeeedaaGreatDoorW.PrintLast Go.Proofs.YtcpmoolpbeeedaaGreatDoorW.PrintMore
def mk (l : List UInt8) : ByteArray := ⟨l.toArray⟩
theorem up_of {α : Type} {f : Nat → Option α} (hm : ∀ k, LeO (f k) (f (k + 1))) {K : Nat} {v : α} (h : f K = some v) : ∀ k, K ≤ k → f k = some v := by
  intro k hk
  induction hk with
  | refl => exact h
  | step _ ih => exact hm _ _ ih
theorem size_mk (l : List UInt8) : (mk l).size = l.length := by simp [mk, ByteArray.size]
theorem data_mk (l : List UInt8) : (mk l).data.toList = l := by simp [mk]
theorem mk_data (x : ByteArray) : mk x.data.toList = x := by simp [mk]
theorem toList_mk (l : List UInt8) : (mk l).toList = l := by rw [Lib.toList_data, data_mk]
theorem mk_append (a b : List UInt8) : mk a ++ mk b = mk (a ++ b) := by
  apply ByteArray.ext
  simp [mk]
theorem bt_mk (l : List UInt8) (i : Nat) (h : i < l.length) : bt (mk l) (i : Int) = ((l[i]'h).toNat : Int) := by
  have := bt_at (mk l) (i : Int) (by rw [size_mk]; simpa using h)
  rw [← this]
  simp [mk]
  rfl
theorem wr1 (i : Nat) (h : i < 4611686018427387904) : wrap64 ((i : Int) + 1) = ((i + 1 : Nat) : Int) := by unfold wrap64; omega
theorem wr5 (i : Nat) (h : i < 4611686018427387904) : wrap64 ((i : Int) + 5) = ((i + 5 : Nat) : Int) := by unfold wrap64; omega
theorem drop_at (l : List UInt8) (i : Nat) (h : i < l.length) : l.drop i = l[i] :: l.drop (i + 1) := List.drop_eq_getElem_cons h
theorem extract_mk (l : List UInt8) (a b : Nat) : (mk l).extract a b = mk ((l.drop a).take (b - a)) := by
  apply ByteArray.ext
  apply Array.toList_inj.1
  rw [Lib.extract_data, data_mk, data_mk]
theorem extract_one (l : List UInt8) (i : Nat) (h : i < l.length) : (mk l).extract i (i + 1) = mk [l[i]] := by
  rw [extract_mk, drop_at l i h, show i + 1 - i = 1 by omega]
  rfl
def lines : List UInt8 → List UInt8 → List (List UInt8)
  | cur, [] => [cur]
  | cur, [c] => [cur ++ [c]]
  | cur, c :: d :: r => if c = 13 ∧ d = 10 then cur :: lines [] r else lines (cur ++ [c]) (d :: r)
theorem lines_step (cur : List UInt8) (c : UInt8) (l : List UInt8) (h : ¬ (c = 13 ∧ l.head? = some 10)) : lines cur (c :: l) = lines (cur ++ [c]) l := by
  cases l with
  | nil => rfl
  | cons d r => rw [lines, if_neg (by simpa using h)]
theorem lines_hit (cur r : List UInt8) : lines cur (13 :: 10 :: r) = cur :: lines [] r := by rw [lines, if_pos ⟨rfl, rfl⟩]
theorem lines_ne : ∀ (n : Nat) (l cur : List UInt8), l.length ≤ n → lines cur l ≠ []
  | _, [], cur, _ => by simp [lines]
  | 0, _ :: _, _, h => by simp at h
  | n + 1, c :: l, cur, h => by
    by_cases hc : c = 13 ∧ l.head? = some 10
    · obtain ⟨rfl, hd⟩ := hc
      cases l with
      | nil => simp at hd
      | cons d r =>
        obtain rfl : d = 10 := by simpa using hd
        rw [lines_hit]
        simp
    · rw [lines_step cur c l hc]
      exact lines_ne n l _ (by simpa using h)
theorem idx_lines : ∀ (l : List UInt8), (Lib.index l [13, 10] = -1 ∧ ∀ cur, lines cur l = [cur ++ l]) ∨ ∃ i : Nat, Lib.index l [13, 10] = i ∧ i + 2 ≤ l.length ∧ ∀ cur, lines cur l = (cur ++ l.take i) :: lines [] (l.drop (i + 2))
  | [] => .inl ⟨rfl, fun cur => by simp [lines]⟩
  | c :: l => by
    by_cases hc : c = 13 ∧ l.head? = some 10
    · obtain ⟨rfl, hd⟩ := hc
      cases l with
      | nil => simp at hd
      | cons d r =>
        obtain rfl : d = 10 := by simpa using hd
        refine .inr ⟨0, ?_, by simp, fun cur => by rw [lines_hit]; simp⟩
        rw [Lib.index, if_pos (by simp [List.isPrefixOf])]
        rfl
    · have hp : ([13, 10] : List UInt8).isPrefixOf (c :: l) = false := by
        cases l with
        | nil => simp [List.isPrefixOf]
        | cons d r =>
          simp only [List.isPrefixOf, Bool.and_true]
          rw [Bool.and_eq_false_iff]
          by_cases h1 : c = 13
          · exact .inr (beq_eq_false_iff_ne.2 fun h2 => hc ⟨h1, by simp [h2.symm]⟩)
          · exact .inl (beq_eq_false_iff_ne.2 fun h2 => h1 h2.symm)
      rcases idx_lines l with ⟨h1, h2⟩ | ⟨i, h1, h2, h3⟩
      · refine .inl ⟨?_, fun cur => by rw [lines_step cur c l hc, h2]; simp⟩
        rw [Lib.index, hp, h1]
        rfl
      · refine .inr ⟨i + 1, ?_, by simp; omega, fun cur => by rw [lines_step cur c l hc, h3]; simp⟩
        have : ((i : Int) == -1) = false := beq_eq_false_iff_ne.2 (by omega)
        rw [Lib.index, hp, h1, this]
        simp
theorem split_lines : ∀ (n : Nat) (l : List UInt8), l.length ≤ n → Lib.splitK [13, 10] 0 (Lib.count l [13, 10]) l = lines [] l
  | n, l, hn => by
    rcases idx_lines l with ⟨h1, h2⟩ | ⟨i, h1, h2, h3⟩
    · rw [Lib.count_miss h1, h2, Lib.splitK]
      simp
    · cases n with
      | zero => omega
      | succ n =>
        have hm : ¬ ((i : Int) == -1) = true := fun e => by have := beq_iff_eq.1 e; omega
        have e := Lib.count_hit (s := l) (sub := [13, 10]) (i := i) (by simp) h1
        rw [e, Nat.add_comm, Lib.splitK, h1, if_neg hm, h3]
        simp only [List.length_cons, List.length_nil, Int.toNat_natCast, Nat.add_zero, List.nil_append, Nat.zero_add]
        rw [split_lines n (l.drop (i + 2)) (by simp; omega)]
theorem splitB_lines (l : List UInt8) : Lib.splitB (mk [13, 10]) 0 (Lib.countB (mk l) (mk [13, 10])) (mk l) = (lines [] l).map mk := by
  have h := Lib.splitB_data (mk [13, 10]) 0 (Lib.countB (mk l) (mk [13, 10])) (mk l)
  rw [data_mk, data_mk] at h
  have h2 : Lib.countB (mk l) (mk [13, 10]) = Lib.count l [13, 10] := by unfold Lib.countB; rw [data_mk, data_mk]
  rw [h2] at h ⊢
  rw [split_lines l.length l (Nat.le_refl _)] at h
  rw [← h, List.map_map]
  have : (mk ∘ fun x : ByteArray => x.data.toList) = id := by funext x; exact mk_data x
  rw [this, List.map_id]
def from5 : List UInt8 := [70, 114, 111, 109, 32]
def mkd (l : List UInt8) : Bool := (l.dropWhile (· == 62)).take 5 == from5
theorem hasPrefix_mk (a b : List UInt8) : stringslite_HasPrefix.f (mk a) (mk b) = some (a.take b.length == b) := by
  unfold stringslite_HasPrefix.f
  rw [size_mk, size_mk]
  by_cases h : b.length ≤ a.length
  · rw [if_pos (by omega), if_pos (by omega), if_pos (by omega), Int.toNat_natCast, extract_mk, toList_mk, toList_mk]
    simp
  · rw [if_neg (by omega)]
    refine congrArg some ?_
    symm
    rw [beq_eq_false_iff_ne]
    intro e
    have := congrArg List.length e
    simp at this
    omega
theorem marked_mk (l : List UInt8) : mbox_marked.f (mk l) = some (mkd l) := by
  unfold mbox_marked.f strings_TrimLeft.f
  have : (⟨#[62]⟩ : ByteArray).data.toList = [62] := rfl
  rw [this]
  dsimp only
  rw [if_pos (by decide), data_mk]
  dsimp only [Option.bind_some]
  unfold strings_HasPrefix.f
  have := hasPrefix_mk (Lib.trimLeftB l 62) from5
  rw [show (⟨(Lib.trimLeftB l 62).toArray⟩ : ByteArray) = mk (Lib.trimLeftB l 62) from rfl, show (⟨#[70, 114, 111, 109, 32]⟩ : ByteArray) = mk from5 from rfl, this]
  rfl
def qu (l : List UInt8) : List UInt8 := if mkd l = true then 62 :: l else l
def uq (l : List UInt8) : List UInt8 := if mkd l = true ∧ l.head? = some 62 then l.tail else l
theorem quote1 (l : List UInt8) (h : l.length < 4294967281) : mbox_Quote_1.f (mk l) = some (mk (qu l)) := by
  unfold mbox_Quote_1.f
  rw [marked_mk]
  dsimp only [Option.bind_some]
  unfold qu
  by_cases hm : mkd l = true
  · rw [if_pos hm, if_pos hm, size_mk, if_pos (by omega), show (⟨#[62]⟩ : ByteArray) = mk [62] from rfl, mk_append]
    rfl
  · rw [if_neg hm, if_neg hm]
theorem mapO_q (F : ByteArray → Option ByteArray) (q : List UInt8 → List UInt8) : ∀ ls : List (List UInt8), (∀ l ∈ ls, F (mk l) = some (mk (q l))) → mbox_Quote.mapO F (ls.map mk) = some ((ls.map q).map mk)
  | [], _ => rfl
  | l :: ls, h => by
    rw [List.map_cons, mbox_Quote.mapO, h l (by simp)]
    dsimp only [Option.bind_some]
    rw [mapO_q F q ls (fun x hx => h x (by simp [hx]))]
    rfl
def ended (ls : List (List UInt8)) : List UInt8 := ([13, 10] : List UInt8).intercalate ls
theorem ended_one (x : List UInt8) : ended [x] = x := by simp [ended, List.intercalate]
theorem ended_cons (x y : List UInt8) (l : List (List UInt8)) : ended (x :: y :: l) = x ++ 13 :: 10 :: ended (y :: l) := by simp [ended, List.intercalate]
theorem ended_len : ∀ (n : Nat) (l cur : List UInt8), l.length ≤ n → (ended ((lines cur l).map qu)).length ≤ cur.length + l.length + (lines cur l).length ∧ (ended ((lines cur l).map uq)).length ≤ cur.length + l.length ∧ (lines cur l).length ≤ l.length + 1 ∧ (∀ x ∈ lines cur l, x.length ≤ cur.length + l.length)
  | _, [], cur, _ => by
    have h1 : (qu cur).length ≤ cur.length + 1 := by unfold qu; split <;> simp
    have h2 : (uq cur).length ≤ cur.length := by unfold uq; split <;> simp
    simp only [lines, List.map_cons, List.map_nil, ended_one, List.length_nil, List.length_singleton, List.mem_singleton, forall_eq]
    omega
  | 0, _ :: _, _, h => by simp at h
  | n + 1, c :: l, cur, h => by
    have h1 : (qu cur).length ≤ cur.length + 1 := by unfold qu; split <;> simp
    have h2 : (uq cur).length ≤ cur.length := by unfold uq; split <;> simp
    by_cases hc : c = 13 ∧ l.head? = some 10
    · obtain ⟨rfl, hd⟩ := hc
      cases l with
      | nil => simp at hd
      | cons d r =>
        obtain rfl : d = 10 := by simpa using hd
        rw [lines_hit]
        have ih := ended_len n r [] (by simp at h; omega)
        cases hr : lines [] r with
        | nil => exact absurd hr (lines_ne _ r [] (Nat.le_refl _))
        | cons y ys =>
          rw [hr] at ih
          simp only [List.map_cons, List.length_cons, List.length_nil, Nat.zero_add] at ih ⊢
          rw [ended_cons, ended_cons]
          simp only [List.length_append, List.length_cons]
          refine ⟨by omega, by omega, by omega, ?_⟩
          intro x hx
          rcases List.mem_cons.1 hx with rfl | hx
          · omega
          · have := ih.2.2.2 x hx
            omega
    · rw [lines_step cur c l hc]
      have ih := ended_len n l (cur ++ [c]) (by simpa using h)
      simp only [List.length_append, List.length_cons, List.length_nil] at ih ⊢
      refine ⟨by omega, by omega, by omega, fun x hx => ?_⟩
      have := ih.2.2.2 x hx
      omega
theorem quote_f (l : List UInt8) (h : l.length < 1000000) : mbox_Quote.f (mk l) = some (mk (ended ((lines [] l).map qu))) := by
  unfold mbox_Quote.f
  have hl := ended_len l.length l [] (Nat.le_refl _)
  rw [size_mk, if_pos (by omega), show mbox_Quote.sep = mk [13, 10] from rfl, splitB_lines, mapO_q _ qu _ (fun x hx => quote1 x (by have := hl.2.2.2 x hx; simp at this; omega))]
  dsimp only [Option.bind_some]
  have e : (((lines [] l).map qu).map mk).map (fun x : ByteArray => x.data.toList) = (lines [] l).map qu := by
    rw [List.map_map, show ((fun x : ByteArray => x.data.toList) ∘ mk) = id from funext fun x => data_mk x, List.map_id]
  rw [e, data_mk, show Lib.join ((lines [] l).map qu) [13, 10] = ended ((lines [] l).map qu) from rfl, if_pos (by simp at hl; omega)]
  rfl
end Go.Proofs.YtcpmoolpbeeedaaGreatDoor.Q
namespace Go.Proofs.YtcpmoolpbeeedaaGreatDoor.Q
open Go.RowKit Go.Proofs.YtcpmoolpbeeedaaGreatDoorW.PrintWords Go.Proofs.YtcpmoolpbeeedaaGreatDoorW.PrintLast Go.Proofs.YtcpmoolpbeeedaaGreatDoorW.PrintMore
end Go.Proofs.YtcpmoolpbeeedaaGreatDoor.Q
namespace Go.Proofs.YtcpmoolpbeeedaaGreatDoor.Q
open Go.RowKit Go.Proofs.YtcpmoolpbeeedaaGreatDoorW.PrintWords Go.Proofs.YtcpmoolpbeeedaaGreatDoorW.PrintLast Go.Proofs.YtcpmoolpbeeedaaGreatDoorW.PrintMore
theorem works_is : bulletinlaw23_works.f 400 = some true := by decide +kernel
theorem works_up : ∀ k, 400 ≤ k → bulletinlaw23_works.f k = some true := up_of bulletinlaw23_works.mono works_is
end Go.Proofs.YtcpmoolpbeeedaaGreatDoor.Q
