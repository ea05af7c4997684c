/- MboxJust, plain: all answers always, and what an entry is read as is written as it. -/
import Derived.Test.YtcpmoolpbeeedaaGreatDoorUA
import Derived.Test.YtcpmoolpbeeedaaGreatDoorAD
import Derived.Test.YtcpmoolpbeeedaaGreatDoorDM12
import Derived.Test.YtcpmoolpbeeedaaGreatDoorQ39b
namespace Go.Proofs.YtcpmoolpbeeedaaGreatDoor.Q
open Go.RowKit Go.Proofs.YtcpmoolpbeeedaaGreatDoorW.PrintWords Go.Proofs.YtcpmoolpbeeedaaGreatDoorW.PrintLast Go.Proofs.YtcpmoolpbeeedaaGreatDoorW.PrintMore

theorem line_t (a : Int) (k : Nat) (hk : 70000 ≤ k) : ∃ r, date_Line.f k a = some r ∧ r.size ≤ 100 := by
  by_cases h : 0 ≤ a ∧ a ≤ 1099511627776
  · obtain ⟨y, m, d, i, e⟩ := of_is a h.1 h.2 k hk
    refine ⟨_, line_is a h.1 h.2 k y m d i e, ?_⟩
    have sm := i.small (by omega) (by omega)
    have l := Lg_le y m
    have i' := i
    unfold Is at i'
    have h1 := weekB_size ((a / 86400 + 4) % 7) (by omega) (by omega)
    have h2 := monthB_size m (by omega) (by omega)
    have h3 := num_size d (by omega) (by omega)
    have h4 := num_size y (by omega) (by omega)
    have h5 := clockB_size (a % 86400 / 3600) (a % 86400 / 60 % 60) (a % 60)
    have s1 : (⟨#[32]⟩ : ByteArray).size = 1 := rfl
    unfold lineB
    by_cases hd : d < 10
    · rw [if_pos hd]
      simp only [ByteArray.size_append, h1, h2, h5, s1]
      omega
    · rw [if_neg hd]
      simp only [ByteArray.size_append, h1, h2, h5, s1]
      omega
  · exact ⟨_, line_not a h k, by decide⟩
theorem day_t (a : Int) : ∃ r, date_Day.f a = some r := by
  unfold date_Day.f
  rw [moment_is]
  dsimp only [Option.bind_some]
  split <;> exact ⟨_, rfl⟩
theorem suffix_t (a b : ByteArray) (ha : a.size < 1000000000) (hb : b.size < 1000000000) : ∃ r, stringslite_HasSuffix.f a b = some r := by
  unfold stringslite_HasSuffix.f
  by_cases h : (a.size : Int) ≥ (b.size : Int)
  · have e : wrap64 ((a.size : Int) - (b.size : Int)) = ((a.size - b.size : Nat) : Int) := by unfold wrap64; omega
    rw [if_pos h, e, if_pos (by omega), if_pos (by omega)]
    exact ⟨_, rfl⟩
  · rw [if_neg h]
    exact ⟨_, rfl⟩
theorem hasSuffix_t (a b : ByteArray) (ha : a.size < 1000000000) (hb : b.size < 1000000000) : ∃ r, strings_HasSuffix.f a b = some r := by
  obtain ⟨r, hr⟩ := suffix_t a b ha hb
  unfold strings_HasSuffix.f
  rw [hr]
  exact ⟨_, rfl⟩
theorem cutSuffix_t (a b : ByteArray) (ha : a.size < 1000000000) (hb : b.size < 1000000000) : ∃ r, strings_CutSuffix.f a b = some r ∧ r.1.size ≤ a.size := by
  obtain ⟨r, hr⟩ := suffix_t a b ha hb
  unfold strings_CutSuffix.f stringslite_CutSuffix.f
  rw [hr]
  dsimp only [Option.bind_some]
  by_cases h : r = true
  · rw [if_pos h]
    by_cases h2 : (a.size : Int) ≥ (b.size : Int)
    · have e : wrap64 ((a.size : Int) - (b.size : Int)) = ((a.size - b.size : Nat) : Int) := by unfold wrap64; omega
      rw [e, if_pos (by omega), if_pos (by omega)]
      exact ⟨_, rfl, by simp⟩
    · unfold stringslite_HasSuffix.f at hr
      rw [if_neg h2] at hr
      rw [← Option.some.inj hr] at h
      cases h
  · rw [if_neg h]
    exact ⟨_, rfl, Nat.le_refl _⟩
theorem right_t (a b t : ByteArray) (n : Int) (ha : a.size < 1000000) (hb : b.size < 1000000) (ht : t.size < 10000000) (k : Nat) (hk : 3000100 ≤ k) : ∃ r, mbox_Right.f k a b n t = some r := by
  unfold mbox_Right.f addr_Addr_Right.f
  obtain ⟨c, hc⟩ := Ad.why_t a b (by omega) (by omega) k (by omega)
  rw [hc]
  dsimp only [Option.bind_some]
  have hs : ∃ r, strings_HasSuffix.f t (⟨#[13, 10]⟩ : ByteArray) = some r := hasSuffix_t t _ (by omega) (by decide)
  obtain ⟨x, hx⟩ := hs
  obtain ⟨d, hd⟩ := day_t n
  rw [hd, hx]
  dsimp only [Option.bind_some]
  by_cases h0 : c = 0
  · rw [if_pos h0, Ad.gfold b (by omega)]
    dsimp only [Option.bind_some]
    split
    · split
      · split <;> exact ⟨_, rfl⟩
      · exact ⟨_, rfl⟩
    · exact ⟨_, rfl⟩
  · rw [if_neg h0]
    dsimp only [Option.bind_some]
    rw [if_neg (by decide)]
    exact ⟨_, rfl⟩
theorem entry_text (a b : ByteArray) (t : List UInt8) (n : Int) (ha : a.size < 1000000) (hb : b.size < 1000000) (ht : t.length < 1000000) (k : Nat) (hk : 3000100 ≤ k) : ∃ r, mbox_Entry.f k a b n (mk t) = some r := by
  unfold mbox_Entry.f
  obtain ⟨x, hx, xs⟩ := Ad.addrText_t a b (by omega) (by omega) k (by omega)
  obtain ⟨l, hl, ls⟩ := line_t n k (by omega)
  obtain ⟨s, hs⟩ := hasSuffix_t (mk t) (⟨#[13, 10]⟩ : ByteArray) (by rw [size_mk]; omega) (by decide)
  have hq := ended_len t.length t [] (Nat.le_refl _)
  simp only [List.length_nil, Nat.zero_add] at hq
  rw [hx, hl, quote_f t (by omega), hs]
  dsimp only [Option.bind_some]
  have eq := size_mk (ended ((lines [] t).map qu))
  rw [if_pos (by omega), if_pos (by omega), if_pos (by omega), if_pos (by omega), if_pos (by omega)]
  by_cases h1 : (mk t).toList = []
  · rw [if_pos h1, if_pos (by omega)]
    exact ⟨_, rfl⟩
  · rw [if_neg h1]
    by_cases h2 : s = true
    · rw [if_pos h2, if_pos (by omega)]
      exact ⟨_, rfl⟩
    · rw [if_neg h2, if_pos (by omega), if_pos (by omega)]
      exact ⟨_, rfl⟩
theorem fields_len : ∀ (f : Nat) (cur l : List UInt8), ∀ x ∈ Lib.fieldsGoD f cur l, x.length ≤ cur.length + l.length
  | 0, cur, l, x, hx => by
    unfold Lib.fieldsGoD at hx
    split at hx
    · cases hx
    · obtain rfl := List.mem_singleton.1 hx
      omega
  | f + 1, cur, l, x, hx => by
    unfold Lib.fieldsGoD at hx
    split at hx
    · split at hx
      · cases hx
      · obtain rfl := List.mem_singleton.1 hx
        omega
    · split at hx
      · rcases List.mem_append.1 hx with hx | hx
        · split at hx
          · cases hx
          · obtain rfl := List.mem_singleton.1 hx
            omega
        · have := fields_len f [] _ x hx
          simp at this
          omega
      · have := fields_len f _ _ x hx
        simp at this
        omega
theorem rdOf_size (xs : List ByteArray) (n : Nat) (h : ∀ x ∈ xs, x.size ≤ n) (i : Int) : (rdOf ByteArray.empty xs i).size ≤ n := by
  unfold rdOf
  by_cases hi : i.toNat < xs.length
  · rw [List.getD_eq_getElem?_getD, List.getElem?_eq_getElem hi]
    exact h _ (List.getElem_mem hi)
  · rw [List.getD_eq_getElem?_getD, List.getElem?_eq_none (by omega)]
    exact Nat.zero_le _
theorem bb_mk (x : ByteArray) : bb x.data.toList = x := by simp [bb]
theorem moment_t (x : ByteArray) (hx : x.size ≤ 30) (k : Nat) (hk : 70000 ≤ k) : ∃ r, mbox_moment.f k x = some r := by
  unfold mbox_moment.f strings_Fields.f
  rw [if_pos (by omega)]
  dsimp only [Option.bind_some]
  generalize hfs : ((Lib.fieldsD x.data.toList).map fun y => (⟨y.toArray⟩ : ByteArray)) = fs
  have hf : ∀ y ∈ fs, y.size ≤ 30 := by
    intro y hy
    rw [← hfs] at hy
    obtain ⟨z, hz, rfl⟩ := List.mem_map.1 hy
    have := fields_len _ [] _ z hz
    have e : x.data.toList.length = x.size := Array.length_toList
    have e2 : (⟨z.toArray⟩ : ByteArray).size = z.length := by simp [ByteArray.size]
    rw [e2]
    simp only [List.length_nil, Nat.zero_add] at this
    omega
  by_cases h5 : (fs.length : Int) = 5
  · have r1 := rdOf_size fs 30 hf 1
    have r2 := rdOf_size fs 30 hf 2
    have r3 := rdOf_size fs 30 hf 3
    have r4 := rdOf_size fs 30 hf 4
    rw [if_pos h5, if_pos (by omega), if_pos (by omega), if_pos (by omega), if_pos (by omega), if_pos (by omega), if_pos (by omega), if_pos (by omega), if_pos (by omega), if_pos (by omega), if_pos (by omega), if_pos (by omega)]
    generalize hz : ((((((((rdOf ByteArray.empty fs 2) ++ (⟨#[32]⟩ : ByteArray)) ++ (rdOf ByteArray.empty fs 1)) ++ (⟨#[32]⟩ : ByteArray)) ++ (rdOf ByteArray.empty fs 4)) ++ (⟨#[32]⟩ : ByteArray)) ++ (rdOf ByteArray.empty fs 3)) ++ (⟨#[32, 90]⟩ : ByteArray)) = z
    have hzs : z.size ≤ 300 := by
      rw [← hz]
      have s1 : (⟨#[32]⟩ : ByteArray).size = 1 := rfl
      have s2 : (⟨#[32, 90]⟩ : ByteArray).size = 2 := rfl
      simp only [ByteArray.size_append, s1, s2]
      omega
    have hr := read_is k (by omega) z.data.toList (by have : z.data.toList.length = z.size := Array.length_toList
                                                      omega)
    rw [bb_mk] at hr
    rw [hr]
    exact ⟨_, rfl⟩
  · rw [if_neg h5]
    exact ⟨_, rfl⟩
theorem begun_l0 (x : ByteArray) (hx : x.size ≤ 3000) : ∀ (n i k : Nat), i + n = 26 → 24 ≤ i → 3000200 + n < k → ∃ r, mbox_begun.l0 k x (i : Int) = some r ∧ r.1.size ≤ 6000 ∧ r.2.1.size ≤ 6000
  | 0, i, k, hi, h24, hk => by
    obtain ⟨k, rfl⟩ : ∃ j, k = j + 1 := ⟨k - 1, by omega⟩
    rw [mbox_begun.l0, if_neg (by omega)]
    exact ⟨_, rfl, Nat.zero_le _, Nat.zero_le _⟩
  | n + 1, i, k, hi, h24, hk => by
    obtain ⟨k, rfl⟩ : ∃ j, k = j + 1 := ⟨k - 1, by omega⟩
    have e1 : wrap64 ((wrap64 (5 + (i : Int))) + 1) = ((i + 6 : Nat) : Int) := by unfold wrap64; omega
    rw [mbox_begun.l0, if_pos (by omega), e1]
    by_cases hs : (x.size : Int) < ((i + 6 : Nat) : Int)
    · rw [if_pos hs]
      exact ⟨_, rfl, Nat.zero_le _, Nat.zero_le _⟩
    · have e2 : wrap64 ((x.size : Int) - (i : Int)) = ((x.size - i : Nat) : Int) := by unfold wrap64; omega
      have e3 : wrap64 (((x.size - i : Nat) : Int) - 1) = ((x.size - i - 1 : Nat) : Int) := by unfold wrap64; omega
      have e4 : wrap64 ((i : Int) + 1) = ((i + 1 : Nat) : Int) := by unfold wrap64; omega
      rw [if_neg hs, e2, e3, if_pos (by omega), if_pos (by omega), Int.toNat_natCast]
      obtain ⟨p, hp, p1, p2⟩ := Ad.parse_t (x.extract 5 (x.size - i - 1)) (by simp; omega) k (by simp; omega)
      have ps : (x.extract 5 (x.size - i - 1)).size ≤ 3000 := by simp; omega
      obtain ⟨m, hm⟩ := moment_t (x.extract (x.size - i) x.size) (by simp; omega) k (by omega)
      obtain ⟨t, ht, ts⟩ := Ad.addrText_t p.1 p.2.1 (by omega) (by omega) k (by omega)
      obtain ⟨l, hl, ls⟩ := line_t m.1 k (by omega)
      obtain ⟨r, hr, r1, r2⟩ := begun_l0 x hx n (i + 1) k (by omega) (by omega) (by omega)
      rw [hp]
      dsimp only [Option.bind_some]
      rw [if_pos (by omega), if_pos (by omega), Int.toNat_natCast, hm]
      dsimp only [Option.bind_some]
      rw [e4, hr, ht]
      dsimp only [Option.bind_some]
      by_cases q1 : m.2 = true
      · rw [if_pos q1]
        by_cases q2 : p.2.2 = 0
        · rw [if_pos q2, if_pos (by omega), if_pos (by omega), hl]
          dsimp only [Option.bind_some]
          rw [if_pos (by omega)]
          split
          · exact ⟨_, rfl, by dsimp only; omega, by dsimp only; omega⟩
          · exact ⟨_, rfl, r1, r2⟩
        · rw [if_neg q2]
          exact ⟨_, rfl, r1, r2⟩
      · rw [if_neg q1]
        exact ⟨_, rfl, r1, r2⟩
theorem begun_t (x : ByteArray) (hx : x.size ≤ 3000) (k : Nat) (hk : 3000300 ≤ k) : ∃ r, mbox_begun.f k x = some r ∧ r.1.size ≤ 6000 ∧ r.2.1.size ≤ 6000 := by
  unfold mbox_begun.f
  exact begun_l0 x hx 2 24 k (by omega) (by omega) (by omega)
abbrev R5 := ByteArray × ByteArray × Int × ByteArray × Bool
def K0 : Nat := 3000400
/-- An entry's mail is right, and written as it. -/
def Fits (r : ByteArray × ByteArray × Int × ByteArray) (x : ByteArray) : Prop := (∀ k, K0 ≤ k → mbox_Right.f k r.1 r.2.1 r.2.2.1 r.2.2.2 = some true) ∧ ∃ y, (∀ k, K0 ≤ k → mbox_Entry.f k r.1 r.2.1 r.2.2.1 r.2.2.2 = some y) ∧ y.toList = x.toList
theorem cut_size (x : ByteArray) : (Lib.cut x.data.toList [13, 10]).1.length ≤ x.size ∧ (Lib.cut x.data.toList [13, 10]).2.1.length ≤ x.size := by
  have e : x.data.toList.length = x.size := Array.length_toList
  unfold Lib.cut
  split <;> simp <;> omega
theorem entry_t (x : ByteArray) (hx : x.size ≤ 2000) : ∃ r : R5, mbox_entry.f (K0 + 1) x = some r ∧ (r.2.2.2.2 = true → Fits (r.1, r.2.1, r.2.2.1, r.2.2.2.1) x) := by
  obtain ⟨c1, c2⟩ := cut_size x
  unfold mbox_entry.f strings_Cut.f
  rw [if_pos (by omega)]
  dsimp only [Option.bind_some]
  by_cases h1 : (Lib.cut x.data.toList [13, 10]).2.2 = true
  · rw [if_pos h1]
    have z1 : (⟨(Lib.cut x.data.toList [13, 10]).1.toArray⟩ : ByteArray).size = (Lib.cut x.data.toList [13, 10]).1.length := by simp [ByteArray.size]
    have z2 : (⟨(Lib.cut x.data.toList [13, 10]).2.1.toArray⟩ : ByteArray).size = (Lib.cut x.data.toList [13, 10]).2.1.length := by simp [ByteArray.size]
    obtain ⟨b, hb, b1, b2⟩ := begun_t ⟨(Lib.cut x.data.toList [13, 10]).1.toArray⟩ (by omega) (K0 + 1) (by unfold K0; omega)
    obtain ⟨s, hs, s1⟩ := cutSuffix_t ⟨(Lib.cut x.data.toList [13, 10]).2.1.toArray⟩ (⟨#[13, 10]⟩ : ByteArray) (by omega) (by decide)
    rw [hb, hs]
    dsimp only [Option.bind_some]
    have bad : ∃ r : R5, mbox_entry.j0 (K0 + 1) x b.2.2.1 s.1 true b.1 b.2.1 = some r ∧ (r.2.2.2.2 = true → Fits (r.1, r.2.1, r.2.2.1, r.2.2.2.1) x) := by
      rw [mbox_entry.j0, if_pos rfl]
      exact ⟨_, rfl, fun h => by cases h⟩
    have good : ∃ r : R5, mbox_entry.j0 (K0 + 1) x b.2.2.1 s.1 false b.1 b.2.1 = some r ∧ (r.2.2.2.2 = true → Fits (r.1, r.2.1, r.2.2.1, r.2.2.2.1) x) := by
      rw [mbox_entry.j0, if_neg (by decide)]
      obtain ⟨l, hl⟩ : ∃ l, s.1 = mk l := ⟨s.1.data.toList, (mk_data _).symm⟩
      have ll : l.length ≤ 2000 := by rw [hl, size_mk] at s1; omega
      have hq := ended_len l.length l [] (Nat.le_refl _)
      simp only [List.length_nil, Nat.zero_add] at hq
      rw [hl, unquote_f l (by omega)]
      dsimp only [Option.bind_some]
      obtain ⟨q, hq1⟩ := right_t b.1 b.2.1 (mk (ended ((lines [] l).map uq))) b.2.2.1 (by omega) (by omega) (by rw [size_mk]; omega) K0 (by unfold K0; omega)
      obtain ⟨w, hw⟩ := entry_text b.1 b.2.1 (ended ((lines [] l).map uq)) b.2.2.1 (by omega) (by omega) (by omega) K0 (by unfold K0; omega)
      rw [hq1, hw]
      dsimp only [Option.bind_some]
      by_cases hqt : q = true
      · rw [if_pos hqt]
        subst hqt
        exact ⟨_, rfl, fun h => ⟨up_of (mbox_Right.mono _ _ _ _) hq1, w, up_of (mbox_Entry.mono _ _ _ _) hw, eq_of_beq h⟩⟩
      · rw [if_neg hqt]
        exact ⟨_, rfl, fun h => by cases h⟩
    by_cases h2 : b.2.2.2 = true
    · rw [if_pos h2]
      cases s.2 with
      | true => exact good
      | false => exact bad
    · rw [if_neg h2]
      exact bad
  · rw [if_neg h1]
    exact ⟨_, rfl, fun h => by cases h⟩
/-- Mails that are right, and whose entries are, one behind the other, these bytes. -/
def Good : List S34 → List UInt8 → Prop
  | [], s => s = []
  | m :: l, s => ∃ a r, Fits (m.f0.f0, m.f0.f1, m.f1, m.f2) (mk a) ∧ s = a ++ r ∧ Good l r ∧ 1 ≤ a.length
theorem cutN (l : List UInt8) (h0 : l ≠ []) (hl : l.length ≤ 2000) : ∃ n : Nat, mbox_cut.f (mk l) = some (n : Int) ∧ 1 ≤ n ∧ n ≤ l.length := by
  unfold mbox_cut.f strings_Index.f
  rw [size_mk, if_pos (by omega)]
  dsimp only [Option.bind_some]
  have hlen : 1 ≤ l.length := List.length_pos_iff.2 h0
  have h := Lib.indexB_cases (mk l) (⟨#[13, 10, 70, 114, 111, 109, 32]⟩ : ByteArray)
  unfold Lib.indexB at h
  rcases h with h | ⟨i, h, hr⟩
  · rw [h, if_neg (by decide)]
    exact ⟨l.length, rfl, hlen, Nat.le_refl _⟩
  · have s7 : (⟨#[13, 10, 70, 114, 111, 109, 32]⟩ : ByteArray).size = 7 := rfl
    rw [size_mk, s7] at hr
    rw [h, if_pos (by omega)]
    refine ⟨i + 2, ?_, by omega, by omega⟩
    congr 1
    unfold wrap64
    omega
theorem split_t : ∀ (n : Nat) (s : List UInt8) (acc : List S34) (k : Nat), s.length ≤ n → n ≤ 2000 → K0 + n + 3 < k → acc.length + n < 1000000 →
    ∃ l c, mbox_Split.l0 k (mk s) acc = some (l, c) ∧ (c ≠ 0 → l = []) ∧ (c = 0 → ∃ l', l = acc ++ l' ∧ Good l' s)
  | n, s, acc, k, hs, hn, hk, ha => by
    obtain ⟨k, rfl⟩ : ∃ j, k = j + 1 := ⟨k - 1, by omega⟩
    rw [mbox_Split.l0, toList_mk]
    by_cases h0 : s = []
    · subst h0
      rw [if_pos rfl]
      exact ⟨_, _, rfl, fun h => absurd rfl h, fun _ => ⟨[], by simp, rfl⟩⟩
    · rw [if_neg h0]
      obtain ⟨m, hm, m1, m2⟩ := cutN s h0 (by omega)
      rw [hm]
      dsimp only [Option.bind_some]
      rw [if_pos (by omega), size_mk, if_pos (by omega), Int.toNat_natCast, extract_mk, extract_mk, List.drop_zero, Nat.sub_zero, List.take_of_length_le (by simp : (s.drop m).length ≤ s.length - m)]
      obtain ⟨r, hr, hf⟩ := entry_t (mk (s.take m)) (by rw [size_mk, List.length_take]; omega)
      rw [up_of (mbox_entry.mono _) hr k (by omega)]
      dsimp only [Option.bind_some]
      by_cases ho : r.2.2.2.2 = true
      · rw [if_pos ho, if_pos (by omega)]
        match n, hs, hn, hk, ha with
        | 0, hs, _, _, _ => omega
        | n + 1, hs, hn, hk, ha =>
          obtain ⟨l, c, h1, h2, h3⟩ := split_t n (s.drop m) (acc ++ [(⟨(⟨r.1, r.2.1⟩ : S32), r.2.2.1, r.2.2.2.1⟩ : S34)]) k (by simp; omega) (by omega) (by omega) (by simp; omega)
          refine ⟨l, c, h1, h2, fun hc => ?_⟩
          obtain ⟨l', e1, e2⟩ := h3 hc
          refine ⟨(⟨(⟨r.1, r.2.1⟩ : S32), r.2.2.1, r.2.2.2.1⟩ : S34) :: l', by rw [e1]; simp, s.take m, s.drop m, hf ho, (List.take_append_drop m s).symm, e2, by rw [List.length_take]; omega⟩
      · rw [if_neg ho]
        exact ⟨_, _, rfl, fun _ => rfl, fun h => absurd h (by decide)⟩
theorem rd_mid (P1 P2 : List S34) (p : S34) : rd_T34 (P1 ++ p :: P2) (P1.length : Int) = p := by
  unfold rd_T34
  simp [List.getD_eq_getElem?_getD]
theorem just_l0 (s : List UInt8) (hs : s.length ≤ 2000) : ∀ (P2 P1 : List S34) (a b : List UInt8) (k : Nat), s = a ++ b → Good P2 b → K0 + P2.length + 2 < k → P1.length + P2.length < 1000000 →
    bulletinlaw23_MboxJust.l0 k (mk s) (mk a) (P1 ++ P2) (((P1 ++ P2).length : Nat) : Int) (P1.length : Int) = some true
  | [], P1, a, b, k, he, hg, hk, hp => by
    obtain ⟨k, rfl⟩ : ∃ j, k = j + 1 := ⟨k - 1, by omega⟩
    obtain rfl : b = [] := hg
    rw [List.append_nil] at he ⊢
    rw [bulletinlaw23_MboxJust.l0, if_neg (by omega), he, beq_self_eq_true]
  | p :: P2, P1, a, b, k, he, hg, hk, hp => by
    obtain ⟨k, rfl⟩ : ∃ j, k = j + 1 := ⟨k - 1, by omega⟩
    obtain ⟨y, r, ⟨f1, w, f2, f3⟩, hb, hg2, _⟩ := hg
    simp only [List.length_cons] at hk hp
    obtain rfl : w = mk y := by
      rw [toList_mk, Lib.toList_data] at f3
      rw [← f3, mk_data]
    have hl : a.length + y.length ≤ 2000 := by
      rw [he, hb] at hs
      simp at hs
      omega
    rw [bulletinlaw23_MboxJust.l0, if_pos (by simp; omega), if_pos (by omega), if_pos (by simp; omega), rd_mid, f1 k (by omega)]
    dsimp only [Option.bind_some]
    rw [if_pos rfl, f2 k (by omega)]
    dsimp only [Option.bind_some]
    rw [size_mk, size_mk, if_pos (by omega), wr1 _ (by omega), mk_append]
    have ih := just_l0 s hs P2 (P1 ++ [p]) (a ++ y) r k (by rw [he, hb]; simp) hg2 (by omega) (by simp; omega)
    simp only [List.append_assoc, List.singleton_append, List.length_append, List.length_singleton] at ih
    simpa using ih
theorem good_len : ∀ (l : List S34) (s : List UInt8), Good l s → l.length ≤ s.length
  | [], _, _ => Nat.zero_le _
  | m :: l, s, h => by
    obtain ⟨a, r, _, hb, hg, h1⟩ := h
    have := good_len l r hg
    rw [hb, List.length_append, List.length_cons]
    omega
theorem just_all (a0 : ByteArray) (k : Nat) (hk : 5000000 ≤ k) : bulletinlaw23_MboxJust.f k a0 = some true := by
  unfold bulletinlaw23_MboxJust.f
  rw [works_up k (by omega)]
  dsimp only [Option.bind_some]
  rw [if_pos rfl]
  by_cases h0 : (a0.size : Int) > 2000
  · rw [if_pos h0]
  rw [if_neg h0]
  obtain ⟨s, rfl⟩ : ∃ l, a0 = mk l := ⟨a0.data.toList, (mk_data a0).symm⟩
  rw [size_mk] at h0
  unfold mbox_Split.f
  obtain ⟨l, c, h1, h2, h3⟩ := split_t 2000 s [] k (by omega) (by omega) (by unfold K0; omega) (by simp)
  rw [h1]
  dsimp only [Option.bind_some]
  by_cases hc : c = 0
  · rw [if_pos hc]
    obtain ⟨l', e1, e2⟩ := h3 hc
    rw [List.nil_append] at e1
    subst e1
    have hlen := good_len l s e2
    have := just_l0 s (by omega) l [] [] s k rfl e2 (by unfold K0; omega) (by rw [List.length_nil]; omega)
    exact this
  · rw [if_neg hc, h2 hc]
    rfl
theorem mboxJust_pure (a0 : ByteArray) : bulletinlaw23_MboxJust.f 5000000 a0 = some true := just_all a0 5000000 (by decide)
end Go.Proofs.YtcpmoolpbeeedaaGreatDoor.Q
