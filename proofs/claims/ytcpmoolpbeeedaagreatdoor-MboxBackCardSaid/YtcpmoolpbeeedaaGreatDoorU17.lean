/- Right mails, plain: their entries are read as they are, and an archive of them is cut into just these. -/
import Derived.Test.YtcpmoolpbeeedaaGreatDoorU16
namespace Go.Proofs.YtcpmoolpbeeedaaGreatDoor.Q
open Go.RowKit Go.Proofs.YtcpmoolpbeeedaaGreatDoorW.PrintWords Go.Proofs.YtcpmoolpbeeedaaGreatDoorW.PrintLast Go.Proofs.YtcpmoolpbeeedaaGreatDoorW.PrintMore
set_option linter.unusedVariables false
set_option linter.unusedSimpArgs false
set_option linter.unnecessarySimpa false

def entryL (b : Bool) (L D ln T : List UInt8) : List UInt8 := firstL b L D ln ++ 13 :: 10 :: (ended ((lines [] T).map qu) ++ [13, 10])
/-- Does a mail's text end as mails' texts do? -/
def Closed (T : List UInt8) : Prop := T = [] ∨ ∃ t, T = t ++ [13, 10]
theorem suffix_yes (t : List UInt8) (h : t.length < 1000000) : strings_HasSuffix.f (mk (t ++ [13, 10])) (⟨#[13, 10]⟩ : ByteArray) = some true := by
  unfold strings_HasSuffix.f stringslite_HasSuffix.f
  have s2 : (⟨#[13, 10]⟩ : ByteArray).size = 2 := rfl
  have e : wrap64 (((t ++ [13, 10] : List UInt8).length : Int) - ((2 : Nat) : Int)) = (t.length : Int) := by
    rw [List.length_append, show ([13, 10] : List UInt8).length = 2 from rfl]
    unfold wrap64
    omega
  rw [size_mk, s2, e, if_pos (by simp <;> omega), if_pos (by omega), if_pos (by simp <;> omega), Int.toNat_natCast, ext_back t [13, 10] _ rfl, show (⟨#[13, 10]⟩ : ByteArray) = mk [13, 10] from rfl, toList_mk]
  rfl
theorem suffix_only (T : List UInt8) (h : T.length < 1000000) (hs : strings_HasSuffix.f (mk T) (⟨#[13, 10]⟩ : ByteArray) = some true) : ∃ t, T = t ++ [13, 10] := by
  unfold strings_HasSuffix.f stringslite_HasSuffix.f at hs
  have s2 : (⟨#[13, 10]⟩ : ByteArray).size = 2 := rfl
  rw [size_mk, s2] at hs
  by_cases h2 : (T.length : Int) ≥ ((2 : Nat) : Int)
  · have e : wrap64 ((T.length : Int) - ((2 : Nat) : Int)) = ((T.length - 2 : Nat) : Int) := by unfold wrap64; omega
    rw [if_pos h2, e, if_pos (by omega), if_pos (by omega), Int.toNat_natCast, extract_mk, show (⟨#[13, 10]⟩ : ByteArray) = mk [13, 10] from rfl, toList_mk, toList_mk] at hs
    have hs' : (T.drop (T.length - 2)).take (T.length - (T.length - 2)) = [13, 10] := by simpa using hs
    rw [List.take_of_length_le (by simp)] at hs'
    refine ⟨T.take (T.length - 2), ?_⟩
    rw [← hs', List.take_append_drop]
  · rw [if_neg h2] at hs
    cases hs
/-- A right mail. -/
structure Mail (L D : List UInt8) (a y m d : Int) (b : Bool) (T : List UInt8) : Prop where
  make ::
  who : Who L D a y m d b
  closed : Closed T
  sT : T.length ≤ 5000
section
variable {L D : List UInt8} {a y m d : Int} {b : Bool} {T : List UInt8}
theorem quoteLen (T : List UInt8) (h : T.length ≤ 5000) : (ended ((lines [] T).map qu)).length ≤ 2 * T.length + 1 := by
  have hq := ended_len T.length T [] (Nat.le_refl _)
  simp only [List.length_nil, Nat.zero_add] at hq
  omega
theorem mail_right (M : Mail L D a y m d b T) (k : Nat) (hk : K0 ≤ k) : mbox_Right.f k (mk L) (mk D) a (mk T) = some true := by
  have lo := M.who.parts.lo
  have hi := M.who.parts.hi
  have sT := M.sT
  have w : wrap64 (Int.tdiv a 86400) = a / 86400 := by
    rw [Int.tdiv_eq_ediv_of_nonneg lo]
    exact w64 (by omega) (by omega)
  unfold mbox_Right.f date_Day.f
  rw [up_of (addr_Addr_Right.mono _ _) M.who.right k hk, Option.bind_some, if_pos rfl, moment_is, decide_eq_true ⟨lo, hi⟩, Option.bind_some, if_pos rfl, Option.bind_some, w, if_pos (by omega), toList_mk]
  rcases M.closed with h | ⟨t, h⟩
  · rw [if_pos h]
  · rw [if_neg (by rw [h]; simp), h, suffix_yes t (by rw [h] at sT; simp at sT; omega)]
    rfl
theorem mail_entry (M : Mail L D a y m d b T) (k : Nat) (hk : K0 ≤ k) : mbox_Entry.f k (mk L) (mk D) a (mk T) = some (mk (entryL b L D (lineOf a y m d) T)) := by
  have hK : K0 = 3000400 := rfl
  have sL := M.who.sL
  have sD := M.who.sD
  have s64 := M.who.addr.small
  have sT := M.sT
  have al := (addrL_len b L D).1
  have ll := line_len M.who.parts
  have ql := quoteLen T sT
  have eF : (⟨#[70, 114, 111, 109, 32]⟩ : ByteArray) = mk from5 := rfl
  have e32 : (⟨#[32]⟩ : ByteArray) = mk [32] := rfl
  have e2 : (⟨#[13, 10]⟩ : ByteArray) = mk [13, 10] := rfl
  have fin : ((((((mk from5 ++ mk (addrL b L D)) ++ mk [32]) ++ mk (lineOf a y m d)) ++ mk [13, 10]) ++ mk (ended ((lines [] T).map qu))) ++ mk [13, 10]) = mk (entryL b L D (lineOf a y m d) T) := by
    simp only [mk_append]
    unfold entryL firstL
    simp
  unfold mbox_Entry.f
  rw [M.who.text k hk, Option.bind_some, size_mk, if_pos (by omega), if_pos (by omega), M.who.line k (by omega), Option.bind_some, size_mk, if_pos (by omega), if_pos (by omega), quote_f T (by omega), Option.bind_some, size_mk, if_pos (by omega), toList_mk]
  rcases M.closed with h | ⟨t, h⟩
  · rw [if_pos h, if_pos (by omega), eF, e32, e2, fin]
  · have sx : strings_HasSuffix.f (mk T) (⟨#[13, 10]⟩ : ByteArray) = some true := by
      rw [h]
      exact suffix_yes t (by rw [h] at sT; simp at sT; omega)
    rw [if_neg (by rw [h]; simp), sx, Option.bind_some, if_pos rfl, if_pos (by omega), eF, e32, e2, fin]
theorem mk_inj {x z : List UInt8} (h : mk x = mk z) : x = z := by
  have := congrArg (fun q : ByteArray => q.data.toList) h
  simpa [data_mk] using this
theorem mail_begun (w : Who L D a y m d b) (hD : D.length ≤ 5000) (k : Nat) (hk : KB + 3 ≤ k) : mbox_begun.f k (mk (firstL b L D (lineOf a y m d))) = some (mk L, mk D, a, true) := by
  have hk' : 8000003 ≤ k := hk
  have sL := w.sL
  have s64 := w.addr.small
  have al := addrL_len b L D
  have ll := line_len w.parts
  have fl : (firstL b L D (lineOf a y m d)).length = 6 + (addrL b L D).length + (lineOf a y m d).length := by unfold firstL; simp [from5]; omega
  have eF : (⟨#[70, 114, 111, 109, 32]⟩ : ByteArray) = mk from5 := rfl
  have e32 : (⟨#[32]⟩ : ByteArray) = mk [32] := rfl
  have put : ∀ t l : List UInt8, (((mk from5 ++ mk t) ++ mk [32]) ++ mk l) = mk (from5 ++ (t ++ 32 :: l)) := fun t l => by
    simp only [mk_append]
    simp
  -- the step that fits
  have hit : ∀ (j i : Nat), KB ≤ j → (lineOf a y m d).length = i → mbox_begun.l0 (j + 1) (mk (firstL b L D (lineOf a y m d))) (i : Int) = some (mk L, mk D, a, true) := by
    intro j i hj hi
    have hj' : 8000000 ≤ j := hj
    have e1 : wrap64 ((wrap64 (5 + (i : Int))) + 1) = ((i + 6 : Nat) : Int) := by rw [w64 (n := 5 + (i : Int)) (by omega) (by omega), w64 (by omega) (by omega)]; omega
    have e2 : wrap64 (((firstL b L D (lineOf a y m d)).length : Int) - (i : Int)) = ((6 + (addrL b L D).length : Nat) : Int) := by rw [w64 (by omega) (by omega)]; omega
    have e3 : wrap64 (((6 + (addrL b L D).length : Nat) : Int) - 1) = ((5 + (addrL b L D).length : Nat) : Int) := by rw [w64 (by omega) (by omega)]; omega
    have x1 : (mk (firstL b L D (lineOf a y m d))).extract 5 (5 + (addrL b L D).length) = mk (addrL b L D) := by
      rw [extract_mk]
      unfold firstL
      rw [show (5 : Nat) = from5.length from rfl, List.drop_left, show from5.length + (addrL b L D).length - from5.length = (addrL b L D).length by omega, List.take_left]
    have x2 : (mk (firstL b L D (lineOf a y m d))).extract (6 + (addrL b L D).length) (firstL b L D (lineOf a y m d)).length = mk (lineOf a y m d) := by
      have h := ext_back (from5 ++ (addrL b L D ++ [32])) (lineOf a y m d) (firstL b L D (lineOf a y m d)).length (by rw [fl]; simp [from5]; omega)
      rw [show (from5 ++ (addrL b L D ++ [32])) ++ lineOf a y m d = firstL b L D (lineOf a y m d) by unfold firstL; simp, show (from5 ++ (addrL b L D ++ [32]) : List UInt8).length = 6 + (addrL b L D).length by simp [from5]; omega] at h
      exact h
    rw [mbox_begun.l0, if_pos (by omega), e1, size_mk, if_neg (by omega), e2, e3, if_pos (by omega), if_pos (by omega), Int.toNat_natCast, x1, w.parse j hj, Option.bind_some, if_pos (by omega), if_pos (by omega), Int.toNat_natCast, x2, moment_line w.parts j (by omega), Option.bind_some, if_pos rfl, if_pos rfl, w.text j (by unfold K0; omega), Option.bind_some, size_mk, if_pos (by omega), if_pos (by omega), w.line j (by omega), Option.bind_some, size_mk, if_pos (by omega), eF, e32, put, if_pos (show (mk (firstL b L D (lineOf a y m d))).toList = (mk (from5 ++ (addrL b L D ++ 32 :: lineOf a y m d))).toList from rfl)]
  unfold mbox_begun.f
  rcases ll with h24 | h25
  · obtain ⟨j, rfl⟩ : ∃ j, k = j + 1 := ⟨k - 1, by omega⟩
    exact hit j 24 (by unfold KB; omega) h24
  · obtain ⟨j, rfl⟩ : ∃ j, k = j + 2 := ⟨k - 2, by omega⟩
    have nx := hit j 25 (by unfold KB; omega) h25
    have e1 : wrap64 ((wrap64 (5 + 24)) + 1) = ((30 : Nat) : Int) := by clear fl al; unfold wrap64; omega
    have e2 : wrap64 (((firstL b L D (lineOf a y m d)).length : Int) - 24) = (((firstL b L D (lineOf a y m d)).length - 24 : Nat) : Int) := by rw [w64 (by omega) (by omega)]; omega
    have e3 : wrap64 ((((firstL b L D (lineOf a y m d)).length - 24 : Nat) : Int) - 1) = (((firstL b L D (lineOf a y m d)).length - 25 : Nat) : Int) := by rw [w64 (by omega) (by omega)]; omega
    obtain ⟨p, hp, p1, p2⟩ := Ad.parse_t ((mk (firstL b L D (lineOf a y m d))).extract 5 ((firstL b L D (lineOf a y m d)).length - 25)) (by simp [size_mk]; omega) (j + 1) (by simp [size_mk]; omega)
    have ps : ((mk (firstL b L D (lineOf a y m d))).extract 5 ((firstL b L D (lineOf a y m d)).length - 25)).size ≤ 12000 := by simp [size_mk]; omega
    have zs : ((mk (firstL b L D (lineOf a y m d))).extract ((firstL b L D (lineOf a y m d)).length - 24) (firstL b L D (lineOf a y m d)).length).size ≤ 30 := by simp [size_mk]; omega
    obtain ⟨n, hn⟩ := moment_t ((mk (firstL b L D (lineOf a y m d))).extract ((firstL b L D (lineOf a y m d)).length - 24) (firstL b L D (lineOf a y m d)).length) zs (j + 1) (by omega)
    obtain ⟨t, ht, ts⟩ := Ad.addrText_t p.1 p.2.1 (by omega) (by omega) (j + 1) (by omega)
    obtain ⟨l, hl, ls⟩ := line_t n.1 (j + 1) (by omega)
    have e4 : wrap64 ((24 : Int) + 1) = ((25 : Nat) : Int) := w64 (by decide) (by decide)
    rw [mbox_begun.l0, if_pos (by omega), e1, size_mk, if_neg (by omega), e2, e3, if_pos (by omega), if_pos (by omega), Int.toNat_natCast, hp, Option.bind_some, if_pos (by omega), if_pos (by omega), Int.toNat_natCast, hn, Option.bind_some, e4, nx, ht, Option.bind_some]
    by_cases q1 : n.2 = true
    · rw [if_pos q1]
      by_cases q2 : p.2.2 = 0
      · rw [if_pos q2, if_pos (by omega), if_pos (by omega), hl, Option.bind_some, if_pos (by omega)]
        split
        · rename_i he
          have pz : p.1.size ≤ 90000 ∧ p.2.1.size ≤ 90000 := by omega
          obtain ⟨jr, hr⟩ := parse_right _ p.1 p.2.1 (j + 1) (by rw [hp, ← q2]) pz
          have hnr := moment_range _ zs (j + 1) (by omega) n.1 (by rw [hn, ← q1])
          obtain ⟨L', hL'⟩ : ∃ l, p.1 = mk l := ⟨p.1.data.toList, (mk_data _).symm⟩
          obtain ⟨D', hD'⟩ : ∃ l, p.2.1 = mk l := ⟨p.2.1.data.toList, (mk_data _).symm⟩
          obtain ⟨t', rfl⟩ : ∃ l, t = mk l := ⟨t.data.toList, (mk_data _).symm⟩
          obtain ⟨l', rfl⟩ : ∃ z, l = mk z := ⟨l.data.toList, (mk_data _).symm⟩
          have s1 : L'.length ≤ 25000 := by rw [← size_mk, ← hL']; omega
          have s2 : D'.length ≤ 25000 := by rw [← size_mk, ← hD']; omega
          rw [hL', hD'] at hr
          obtain ⟨y', m', d', b', w'⟩ := who_of L' D' n.1 s1 s2 hr hnr
          have ht2 := w'.text (max (j + 1) K0) (Nat.le_max_right _ _)
          rw [← hL', ← hD', up_of (addr_Addr_Text.mono _ _) ht _ (Nat.le_max_left _ _)] at ht2
          have hl2 := w'.line (j + 1) (by omega)
          rw [hl] at hl2
          rw [mk_inj (Option.some.inj ht2), mk_inj (Option.some.inj hl2), eF, e32, put, toList_mk, toList_mk] at he
          unfold firstL at he
          obtain ⟨g1, g2, g3⟩ := who_one w w' (List.append_cancel_left he)
          rw [hL', hD', ← g1, ← g2, ← g3]
        · rfl
      · rw [if_neg q2]
    · rw [if_neg q1]

theorem cut_at (x r : List UInt8) (hx : ∀ c ∈ x, c ≠ 13) : Lib.cut (x ++ 13 :: 10 :: r) [13, 10] = (x, r, true) := by
  have hi : Lib.index (x ++ 13 :: 10 :: r) [13, 10] = (x.length : Int) := by
    refine Lib.index_first (by simp) (by simp [Lib.occAt]) fun j hj => ?_
    unfold Lib.occAt
    rw [List.drop_append_of_le_length (by omega), List.drop_eq_getElem_cons hj, List.cons_append]
    have : x[j] ≠ 13 := hx _ (List.getElem_mem _)
    simp [List.isPrefixOf]
    intro h
    exact absurd h.symm this
  unfold Lib.cut
  rw [hi, if_pos (by omega), Int.toNat_natCast, List.take_left]
  congr 2
  have := List.drop_left (l₁ := x ++ [13, 10]) (l₂ := r)
  simpa using this
theorem first13 (w : Who L D a y m d b) : ∀ c ∈ firstL b L D (lineOf a y m d), c ≠ 13 := fun c hc => by
  unfold firstL at hc
  rw [List.mem_append, List.mem_append, List.mem_cons] at hc
  rcases hc with hc | hc | rfl | hc
  · intro e
    subst e
    revert hc
    decide
  · exact addr13 w.addr b c hc
  · decide
  · exact line13 w.parts c hc
theorem cutSuffix_yes (t : List UInt8) (h : t.length < 1000000) : strings_CutSuffix.f (mk (t ++ [13, 10])) (⟨#[13, 10]⟩ : ByteArray) = some (mk t, true) := by
  have hs := suffix_yes t h
  unfold strings_HasSuffix.f at hs
  obtain ⟨q, hq, e⟩ := Option.bind_eq_some_iff.1 hs
  have s2 : (⟨#[13, 10]⟩ : ByteArray).size = 2 := rfl
  have w : wrap64 (((t ++ [13, 10] : List UInt8).length : Int) - ((2 : Nat) : Int)) = (t.length : Int) := by
    rw [List.length_append, show ([13, 10] : List UInt8).length = 2 from rfl]
    unfold wrap64
    omega
  unfold strings_CutSuffix.f stringslite_CutSuffix.f
  rw [hq, Option.bind_some, Option.some.inj e, if_pos rfl, size_mk, s2, w, if_pos (by omega), if_pos (by simp <;> omega), Int.toNat_natCast, ext_front, Option.bind_some]
theorem mail_read (M : Mail L D a y m d b T) (hD : D.length ≤ 5000) (k : Nat) (hk : KB + 4 ≤ k) : mbox_entry.f k (mk (entryL b L D (lineOf a y m d) T)) = some (mk L, mk D, a, mk T, true) := by
  have hk' : 8000004 ≤ k := hk
  have s64 := M.who.addr.small
  have al := (addrL_len b L D).1
  have ll := line_len M.who.parts
  have sT := M.sT
  have ql := quoteLen T sT
  have fl : (firstL b L D (lineOf a y m d)).length = 6 + (addrL b L D).length + (lineOf a y m d).length := by unfold firstL; simp [from5]; omega
  have el : (entryL b L D (lineOf a y m d) T).length = (firstL b L D (lineOf a y m d)).length + (ended ((lines [] T).map qu)).length + 4 := by unfold entryL; simp; omega
  have z : ∀ l : List UInt8, (⟨l.toArray⟩ : ByteArray) = mk l := fun _ => rfl
  obtain ⟨k, rfl⟩ : ∃ j, k = j + 1 := ⟨k - 1, by omega⟩
  unfold mbox_entry.f strings_Cut.f
  rw [size_mk, if_pos (by omega), data_mk, show (⟨#[13, 10]⟩ : ByteArray).data.toList = [13, 10] from rfl]
  have hc : Lib.cut (entryL b L D (lineOf a y m d) T) [13, 10] = (firstL b L D (lineOf a y m d), ended ((lines [] T).map qu) ++ [13, 10], true) := by
    unfold entryL
    exact cut_at _ _ (first13 M.who)
  have hk3 : KB + 3 ≤ k + 1 := by unfold KB; omega
  have hk0 : K0 ≤ k := by unfold K0; omega
  rw [hc, Option.bind_some, if_pos rfl, z, z, mail_begun M.who hD (k + 1) hk3, Option.bind_some, cutSuffix_yes _ (by omega), Option.bind_some, if_pos rfl, show (!true) = false from rfl, mbox_entry.j0, if_neg (by decide), unquote_f _ (by omega), Option.bind_some, unquote_quote, mail_right M k hk0, Option.bind_some, if_pos rfl, mail_entry M k hk0, Option.bind_some, beq_self_eq_true]
/-! ### Where an archive is cut -/
theorem lines_head : ∀ (n : Nat) (l cur : List UInt8), l.length ≤ n → ∃ z t, lines cur l = (cur ++ z) :: t
  | _, [], cur, _ => ⟨[], [], by simp [lines]⟩
  | 0, _ :: _, _, h => by simp at h
  | n + 1, c :: l, cur, h => by
    by_cases hh : c = 13 ∧ l.head? = some 10
    · obtain ⟨rfl, hd⟩ := hh
      match l, hd with
      | e :: r, hd =>
        obtain rfl : e = 10 := by simpa using hd
        exact ⟨[], lines [] r, by rw [lines_hit]; simp⟩
    · rw [lines_step cur c l hh]
      obtain ⟨z, t, e⟩ := lines_head n l (cur ++ [c]) (by simp at h; omega)
      exact ⟨c :: z, t, by rw [e]; simp⟩
theorem lines_from (B : List UInt8) : ∃ z t, lines [] (from5 ++ B) = (from5 ++ z) :: t := by
  have s : lines [] (from5 ++ B) = lines from5 B := by
    show lines [] (70 :: 114 :: 111 :: 109 :: 32 :: B) = lines [70, 114, 111, 109, 32] B
    rw [lines_step _ _ _ (by simp), lines_step _ _ _ (by simp), lines_step _ _ _ (by simp), lines_step _ _ _ (by simp), lines_step _ _ _ (by simp)]
    rfl
  rw [s]
  exact lines_head B.length B from5 (Nat.le_refl _)
theorem qu_from (z x : List UInt8) : qu z ≠ from5 ++ x := by
  intro h
  have h5 : (qu z).take 5 = from5 := by rw [h]; simp [from5]
  unfold qu at h5
  by_cases hm : mkd z = true
  · rw [if_pos hm] at h5
    simp [from5] at h5
  · rw [if_neg hm] at h5
    exact hm (from_mkd h5)
theorem ended_more : ∀ (l c : List (List UInt8)), (ended l).length ≤ (ended (l ++ c)).length
  | [], _ => by simp [ended, List.intercalate]
  | [x], c => by
    cases c with
    | nil => simp
    | cons y c =>
      show (ended [x]).length ≤ (ended (x :: y :: c)).length
      rw [ended_cons, ended_one]
      simp
  | x :: y :: l, c => by
    have ih := ended_more (y :: l) c
    show (ended (x :: y :: l)).length ≤ (ended (x :: y :: (l ++ c))).length
    rw [ended_cons, ended_cons]
    rw [List.cons_append] at ih
    simp
    omega
theorem entry_lines (w : Who L D a y m d b) (T r : List UInt8) : lines [] (entryL b L D (lineOf a y m d) T ++ r) = (firstL b L D (lineOf a y m d) :: (lines [] T).map qu) ++ lines [] r := by
  unfold entryL
  rw [show (firstL b L D (lineOf a y m d) ++ 13 :: 10 :: (ended ((lines [] T).map qu) ++ [13, 10])) ++ r = firstL b L D (lineOf a y m d) ++ 13 :: 10 :: (ended ((lines [] T).map qu) ++ 13 :: 10 :: r) by simp,
    lines_app _ _ _ (noC_of _ (first13 w)), List.nil_append, lines_cut _ _ _ _ (Nat.le_refl _), lines_quoted]
  rfl
theorem no_cut (w : Who L D a y m d b) (T r : List UInt8) (hT : T.length ≤ 5000) (j : Nat) (hj : j + 2 < (entryL b L D (lineOf a y m d) T).length) : Lib.occAt (entryL b L D (lineOf a y m d) T ++ r) [13, 10, 70, 114, 111, 109, 32] j = false := by
  rw [← Bool.not_eq_true]
  intro ho
  unfold Lib.occAt at ho
  obtain ⟨B, hB⟩ := List.isPrefixOf_iff_prefix.1 ho
  have hs := List.take_append_drop j (entryL b L D (lineOf a y m d) T ++ r)
  rw [← hB] at hs
  have hA : ((entryL b L D (lineOf a y m d) T ++ r).take j).length = j := by rw [List.length_take, List.length_append]; omega
  generalize (entryL b L D (lineOf a y m d) T ++ r).take j = A at hs hA
  have e1 := entry_lines w T r
  rw [← hs, show A ++ ([13, 10, 70, 114, 111, 109, 32] ++ B) = A ++ 13 :: 10 :: (from5 ++ B) from rfl, lines_cut _ _ _ _ (Nat.le_refl _)] at e1
  obtain ⟨z, t, hz⟩ := lines_from B
  rw [hz] at e1
  have lenE : (ended (firstL b L D (lineOf a y m d) :: (lines [] T).map qu)).length + 2 = (entryL b L D (lineOf a y m d) T).length := by
    have hne := lines_ne T.length T [] (Nat.le_refl _)
    unfold entryL
    cases hl : lines [] T with
    | nil => exact absurd hl hne
    | cons p q =>
      rw [List.map_cons, ended_cons]
      simp
      omega
  have endA : ended (lines [] A) = A := by
    have := ended_lines A.length A [] (Nat.le_refl _)
    simpa using this
  have long : ∀ c, lines [] A = (firstL b L D (lineOf a y m d) :: (lines [] T).map qu) ++ c → False := fun c hc => by
    have h1 := ended_more (firstL b L D (lineOf a y m d) :: (lines [] T).map qu) c
    rw [← hc, endA] at h1
    omega
  rcases List.append_eq_append_iff.1 e1 with ⟨c, h1, h2⟩ | ⟨c, h1, h2⟩
  · cases c with
    | nil =>
      rw [List.append_nil] at h1
      exact long [] (by rw [List.append_nil]; exact h1.symm)
    | cons x c =>
      have hx : x = from5 ++ z := by
        have := congrArg List.head? h2
        simp at this
        exact this.symm
      have hm : x ∈ (lines [] T).map qu := by
        cases hl : lines [] A with
        | nil => exact absurd hl (lines_ne A.length A [] (Nat.le_refl _))
        | cons p q =>
          rw [hl, List.cons_append, List.cons.injEq] at h1
          rw [h1.2]
          simp
      obtain ⟨v, _, hv⟩ := List.mem_map.1 hm
      exact qu_from v z (by rw [hv, hx])
  · exact long c h1
theorem mail_cut (w : Who L D a y m d b) (T r : List UInt8) (hT : T.length ≤ 5000) (hs : (entryL b L D (lineOf a y m d) T ++ r).length < 1000000) (hr : r = [] ∨ ∃ r', r = from5 ++ r') : mbox_cut.f (mk (entryL b L D (lineOf a y m d) T ++ r)) = some ((entryL b L D (lineOf a y m d) T).length : Int) := by
  have hE : 2 ≤ (entryL b L D (lineOf a y m d) T).length := by unfold entryL; simp; omega
  have hs' : (entryL b L D (lineOf a y m d) T).length < 1000000 := by rw [List.length_append] at hs; omega
  have z : (⟨#[13, 10, 70, 114, 111, 109, 32]⟩ : ByteArray).data.toList = [13, 10, 70, 114, 111, 109, 32] := rfl
  unfold mbox_cut.f strings_Index.f
  rw [size_mk, if_pos (by omega), data_mk, z, Option.bind_some]
  obtain ⟨X, hX⟩ : ∃ X, entryL b L D (lineOf a y m d) T = X ++ [13, 10] := ⟨firstL b L D (lineOf a y m d) ++ 13 :: 10 :: ended ((lines [] T).map qu), by unfold entryL; simp⟩
  rcases hr with rfl | ⟨r', rfl⟩
  · rw [Lib.index_none (fun j hj => ?_), if_neg (by decide), List.append_nil]
    by_cases h : j + 2 < (entryL b L D (lineOf a y m d) T).length
    · exact no_cut w T [] hT j h
    · rw [← Bool.not_eq_true]
      intro ho
      unfold Lib.occAt at ho
      obtain ⟨B, hB⟩ := List.isPrefixOf_iff_prefix.1 ho
      have := congrArg List.length hB
      simp at this
      simp at hj
      omega
  · have hi : Lib.index (entryL b L D (lineOf a y m d) T ++ (from5 ++ r')) [13, 10, 70, 114, 111, 109, 32] = (((entryL b L D (lineOf a y m d) T).length - 2 : Nat) : Int) := by
      refine Lib.index_first (by simp; omega) ?_ fun j hj => no_cut w T _ hT j (by omega)
      rw [hX]
      unfold Lib.occAt
      rw [show (X ++ [13, 10] : List UInt8).length - 2 = X.length by simp, List.append_assoc, List.drop_left]
      simp [from5]
    rw [hi, if_pos (by omega), w64 (by omega) (by omega)]
    congr 1
end
end Go.Proofs.YtcpmoolpbeeedaaGreatDoor.Q
