/- MboxBack, plain: the entries of right mails, one behind the other, are cut into just these. -/
import Derived.Test.YtcpmoolpbeeedaaGreatDoorU17
import Derived.Test.YtcpmoolpbeeedaaGreatDoorQ39a
namespace Go.Proofs.YtcpmoolpbeeedaaGreatDoor.Q
open Go.RowKit Go.Proofs.YtcpmoolpbeeedaaGreatDoorW.PrintWords Go.Proofs.YtcpmoolpbeeedaaGreatDoorW.PrintLast Go.Proofs.YtcpmoolpbeeedaaGreatDoorW.PrintMore
set_option linter.unusedVariables false
set_option linter.unusedSimpArgs false
set_option linter.unnecessarySimpa false

/-- Whose rightness is told is a right mail. -/
theorem mail_of (L D : List UInt8) (a : Int) (T : List UInt8) (sL : L.length ≤ 25000) (sD : D.length ≤ 25000) (sT : T.length ≤ 5000) (k : Nat) (h : mbox_Right.f k (mk L) (mk D) a (mk T) = some true) : ∃ y m d b, Mail L D a y m d b T := by
  unfold mbox_Right.f at h
  obtain ⟨q, hq, h⟩ := Option.bind_eq_some_iff.1 h
  by_cases hqt : q = true
  · rw [if_pos hqt] at h
    obtain ⟨n, hn, h⟩ := Option.bind_eq_some_iff.1 h
    by_cases hn0 : n ≥ 0
    · rw [if_pos hn0, toList_mk] at h
      have ha : 0 ≤ a ∧ a ≤ 1099511627776 := by
        unfold date_Day.f at hn
        rw [moment_is, Option.bind_some] at hn
        by_cases hc : 0 ≤ a ∧ a ≤ 1099511627776
        · exact hc
        · rw [decide_eq_false hc, if_neg (by decide)] at hn
          have := Option.some.inj hn
          omega
      obtain ⟨y, m, d, b, w⟩ := who_of L D a sL sD (by rw [hq, hqt]) ha
      refine ⟨y, m, d, b, w, ?_, sT⟩
      by_cases hT : T = []
      · exact Or.inl hT
      · rw [if_neg hT] at h
        obtain ⟨z, hz, e⟩ := Option.bind_eq_some_iff.1 h
        rw [Option.some.inj e] at hz
        exact Or.inr (suffix_only T (by omega) hz)
    · rw [if_neg hn0] at h
      cases h
  · rw [if_neg hqt] at h
    cases h
/-- Right mails, and the bytes of their entries, one behind the other. -/
def Arch : List S28 → List UInt8 → Prop
  | [], s => s = []
  | t :: l, s => ∃ (L D : List UInt8) (a y m d : Int) (b : Bool) (T r : List UInt8), t = (⟨(⟨mk L, mk D⟩ : S26), a, mk T⟩ : S28) ∧ Mail L D a y m d b T ∧ D.length ≤ 5000 ∧ s = entryL b L D (lineOf a y m d) T ++ r ∧ Arch l r
theorem arch_head : ∀ (l : List S28) (s : List UInt8), Arch l s → s = [] ∨ ∃ r, s = from5 ++ r
  | [], s, h => Or.inl h
  | t :: l, s, ⟨L, D, a, y, m, d, b, T, r, _, _, _, h, _⟩ => Or.inr ⟨(addrL b L D ++ 32 :: lineOf a y m d) ++ 13 :: 10 :: (ended ((lines [] T).map qu) ++ [13, 10]) ++ r, by rw [h]; unfold entryL firstL; simp⟩
theorem arch_snoc (L D : List UInt8) (a y m d : Int) (b : Bool) (T : List UInt8) (M : Mail L D a y m d b T) (hD : D.length ≤ 5000) : ∀ (l : List S28) (s : List UInt8), Arch l s → Arch (l ++ [(⟨(⟨mk L, mk D⟩ : S26), a, mk T⟩ : S28)]) (s ++ entryL b L D (lineOf a y m d) T)
  | [], s, h => ⟨L, D, a, y, m, d, b, T, [], rfl, M, hD, by rw [show s = [] from h]; simp, rfl⟩
  | t :: l, s, ⟨L', D', a', y', m', d', b', T', r, h1, h2, h3, h4, h5⟩ => ⟨L', D', a', y', m', d', b', T', r ++ entryL b L D (lineOf a y m d) T, h1, h2, h3, by rw [h4]; simp, arch_snoc L D a y m d b T M hD l r h5⟩
def to34 (t : S28) : S34 := ⟨(⟨t.f0.f0, t.f0.f1⟩ : S32), t.f1, t.f2⟩
theorem entry_pos (b : Bool) (L D ln T : List UInt8) : 4 ≤ (entryL b L D ln T).length := by unfold entryL; simp; omega
theorem split_arch : ∀ (l : List S28) (s : List UInt8) (acc : List S34) (k : Nat), Arch l s → s.length < 1000000 → acc.length + l.length < 1000000 → KB + l.length + 5 ≤ k → mbox_Split.l0 k (mk s) acc = some (acc ++ l.map to34, 0)
  | [], s, acc, k, h, hs, ha, hk => by
    obtain ⟨k, rfl⟩ : ∃ j, k = j + 1 := ⟨k - 1, by omega⟩
    rw [mbox_Split.l0, toList_mk, if_pos (show s = [] from h)]
    simp
  | t :: l, s, acc, k, ⟨L, D, a, y, m, d, b, T, r, h1, h2, h3, h4, h5⟩, hs, ha, hk => by
    simp only [List.length_cons] at ha hk
    obtain ⟨k, rfl⟩ : ∃ j, k = j + 1 := ⟨k - 1, by omega⟩
    have hp := entry_pos b L D (lineOf a y m d) T
    have hl : s.length = (entryL b L D (lineOf a y m d) T).length + r.length := by rw [h4, List.length_append]
    have hne : s ≠ [] := fun e => by rw [e] at hl; simp at hl; omega
    have hc : mbox_cut.f (mk s) = some ((entryL b L D (lineOf a y m d) T).length : Int) := by
      rw [h4]
      exact mail_cut h2.who T r h2.sT (by rw [← h4]; exact hs) (arch_head l r h5)
    have x1 : (mk s).extract 0 (entryL b L D (lineOf a y m d) T).length = mk (entryL b L D (lineOf a y m d) T) := by rw [h4, ext_front]
    have x2 : (mk s).extract (entryL b L D (lineOf a y m d) T).length s.length = mk r := by rw [h4, ext_back _ _ _ rfl]
    have ih := split_arch l r (acc ++ [to34 t]) k h5 (by omega) (by simp; omega) (by omega)
    have hr : mbox_entry.f k (mk (entryL b L D (lineOf a y m d) T)) = some (mk L, mk D, a, mk T, true) := mail_read h2 h3 k (by omega)
    rw [mbox_Split.l0, toList_mk, if_neg hne, hc, Option.bind_some, if_pos (by omega), size_mk, if_pos (by omega), Int.toNat_natCast, x1, x2, hr, Option.bind_some, if_pos rfl, if_pos (by omega), show (⟨(⟨mk L, mk D⟩ : S32), a, mk T⟩ : S34) = to34 t by rw [h1]; rfl, ih]
    simp
theorem rd28 (l : List S28) (i : Nat) (h : i < l.length) : rd_T28 l (i : Int) = l[i] := by
  unfold rd_T28
  rw [Int.toNat_natCast, List.getD_eq_getElem?_getD, List.getElem?_eq_getElem h]
  rfl
theorem same_l0 (q : List S28) (hq : q.length < 1000000) : ∀ (n i k : Nat), i + n = q.length → n < k → bulletinlaw23_Same.l0 k (q.map to34) q true (i : Int) = some true
  | 0, i, k, hi, hk => by
    obtain ⟨k, rfl⟩ : ∃ j, k = j + 1 := ⟨k - 1, by omega⟩
    rw [bulletinlaw23_Same.l0, if_pos rfl, List.length_map, if_neg (by omega)]
  | n + 1, i, k, hi, hk => by
    obtain ⟨k, rfl⟩ : ∃ j, k = j + 1 := ⟨k - 1, by omega⟩
    have hin : i < q.length := by omega
    have r34 : rd_T34 (q.map to34) (i : Int) = to34 q[i] := by
      unfold rd_T34
      rw [Int.toNat_natCast, List.getD_eq_getElem?_getD, List.getElem?_map, List.getElem?_eq_getElem hin]
      rfl
    rw [bulletinlaw23_Same.l0, if_pos rfl, List.length_map, if_pos (by omega), if_pos (by omega), if_pos (by omega), rd28 q i hin, r34, bulletinlaw23_To.f, Option.bind_some, wr1 i (by omega)]
    have := same_l0 q hq n (i + 1) k (by omega) (by omega)
    simpa [to34] using this
theorem same_is (q : List S28) (hq : q.length < 1000000) (k : Nat) (hk : q.length < k) : bulletinlaw23_Same.f k (q.map to34) q = some true := by
  have := same_l0 q hq q.length 0 k (Nat.zero_add _) hk
  unfold bulletinlaw23_Same.f
  rw [List.length_map, beq_self_eq_true]
  exact this
def lightM (t : S28) : Prop := t.f2.size ≤ 1000 ∧ t.f0.f0.size ≤ 300 ∧ t.f0.f1.size ≤ 300
theorem light_l0 (q : List S28) : ∀ (n i k : Nat), i + n = 10 → 2 * n + 2 ≤ k → ∃ b, bulletinlaw23_light.l0 k q (i : Int) = some b ∧ (b = true → q.length ≤ 10 ∧ ∀ j (h : j < q.length), i ≤ j → lightM q[j])
  | 0, i, k, hi, hk => by
    obtain ⟨k, rfl⟩ : ∃ j, k = j + 2 := ⟨k - 2, by omega⟩
    have hj : bulletinlaw23_light.j1 (k + 1) q (i : Int) false = some (decide ((q.length : Int) ≤ 10)) := by rw [bulletinlaw23_light.j1, if_neg (by decide)]
    refine ⟨decide ((q.length : Int) ≤ 10), ?_, fun h => ?_⟩
    · rw [bulletinlaw23_light.l0, decide_eq_false (by omega)]
      split <;> exact hj
    · have := of_decide_eq_true h
      exact ⟨by omega, fun j hj hij => by omega⟩
  | n + 1, i, k, hi, hk => by
    obtain ⟨k, rfl⟩ : ∃ j, k = j + 2 := ⟨k - 2, by omega⟩
    rw [bulletinlaw23_light.l0]
    by_cases hin : (i : Int) < (q.length : Int)
    · have h' : i < q.length := by omega
      obtain ⟨b, hb, hb2⟩ := light_l0 q n (i + 1) k (by omega) (by omega)
      rw [if_pos hin, decide_eq_true (by omega), bulletinlaw23_light.j1, if_pos rfl, if_pos (by omega), if_pos hin, rd28 q i h', wr1 i (by omega), hb]
      by_cases h1 : (q[i].f2.size : Int) > 1000
      · rw [if_pos h1]; exact ⟨_, rfl, fun h => by cases h⟩
      rw [if_neg h1]
      by_cases h2 : (q[i].f0.f0.size : Int) > 300
      · rw [if_pos h2]; exact ⟨_, rfl, fun h => by cases h⟩
      rw [if_neg h2]
      by_cases h3 : (q[i].f0.f1.size : Int) > 300
      · rw [if_pos h3]; exact ⟨_, rfl, fun h => by cases h⟩
      rw [if_neg h3]
      refine ⟨b, rfl, fun h => ⟨(hb2 h).1, fun j hj hij => ?_⟩⟩
      rcases Nat.eq_or_lt_of_le hij with rfl | hlt
      · exact ⟨by omega, by omega, by omega⟩
      · exact (hb2 h).2 j hj hlt
    · rw [if_neg hin, bulletinlaw23_light.j1, if_neg (by decide)]
      exact ⟨_, rfl, fun h => ⟨by omega, fun j hj hij => by omega⟩⟩
theorem back_l0 (q : List S28) (hq : q.length ≤ 10) (hl : ∀ j (h : j < q.length), lightM q[j]) : ∀ (n i k : Nat) (s : List UInt8), i + n = q.length → KB + n + 30 ≤ k → Arch (q.take i) s → s.length ≤ 20000 * i → bulletinlaw23_MboxBack.l0 k q (mk s) (q.length : Int) (i : Int) = some true
  | 0, i, k, s, hi, hk, hA, hs => by
    obtain ⟨k, rfl⟩ : ∃ j, k = j + 1 := ⟨k - 1, by omega⟩
    rw [List.take_of_length_le (by omega)] at hA
    have sp : mbox_Split.f k (mk s) = some (q.map to34, 0) := by
      have := split_arch q s [] k hA (by omega) (by simp; omega) (by omega)
      unfold mbox_Split.f
      simpa using this
    rw [bulletinlaw23_MboxBack.l0, if_neg (by omega), sp, Option.bind_some, if_pos rfl, same_is q (by omega) k (by omega)]
    rfl
  | n + 1, i, k, s, hi, hk, hA, hs => by
    obtain ⟨k, rfl⟩ : ∃ j, k = j + 1 := ⟨k - 1, by omega⟩
    have hin : i < q.length := by omega
    obtain ⟨l1, l2, l3⟩ := hl i hin
    obtain ⟨L, hL⟩ : ∃ l, q[i].f0.f0 = mk l := ⟨_, (mk_data _).symm⟩
    obtain ⟨D, hD⟩ : ∃ l, q[i].f0.f1 = mk l := ⟨_, (mk_data _).symm⟩
    obtain ⟨T, hT⟩ : ∃ l, q[i].f2 = mk l := ⟨_, (mk_data _).symm⟩
    rw [hL, size_mk] at l2
    rw [hD, size_mk] at l3
    rw [hT, size_mk] at l1
    have hKB : 8000000 ≤ k := by have : KB + (n + 1) + 30 ≤ k + 1 := hk; unfold KB at this; omega
    obtain ⟨r, hr⟩ := right_t (mk L) (mk D) (mk T) q[i].f1 (by rw [size_mk]; omega) (by rw [size_mk]; omega) (by rw [size_mk]; omega) k (by omega)
    rw [bulletinlaw23_MboxBack.l0, if_pos (by omega), if_pos (by omega), if_pos (by omega), rd28 q i hin, bulletinlaw23_To.f, Option.bind_some, hL, hD, hT, hr, Option.bind_some]
    by_cases hrt : r = true
    · rw [hrt] at hr
      obtain ⟨y, m, d, b, M⟩ := mail_of L D q[i].f1 T (by omega) (by omega) (by omega) k hr
      have al := (addrL_len b L D).1
      have ll := line_len M.who.parts
      have ql := quoteLen T (by omega)
      have el : (entryL b L D (lineOf q[i].f1 y m d) T).length ≤ 20000 := by unfold entryL firstL; simp [from5]; omega
      have ar := arch_snoc L D q[i].f1 y m d b T M (by omega) (q.take i) s hA
      have hq2 : (⟨(⟨mk L, mk D⟩ : S26), q[i].f1, mk T⟩ : S28) = q[i] := by rw [← hL, ← hD, ← hT]
      rw [hq2, show q.take i ++ [q[i]] = q.take (i + 1) by rw [List.take_add_one, List.getElem?_eq_getElem hin]; rfl] at ar
      rw [if_pos hrt, mail_entry M k (by unfold K0; omega), Option.bind_some, size_mk, size_mk, if_pos (by omega), mk_append, wr1 i (by omega)]
      exact back_l0 q hq hl n (i + 1) k _ (by omega) (by omega) ar (by rw [List.length_append]; omega)
    · rw [if_neg hrt]
theorem back_all (q : List S28) (k : Nat) (hk : 9000000 ≤ k) : bulletinlaw23_MboxBack.f k q = some true := by
  unfold bulletinlaw23_MboxBack.f
  rw [works_up k (by omega), Option.bind_some, if_pos rfl]
  obtain ⟨b, hb, hb2⟩ := light_l0 q 10 0 k rfl (by omega)
  unfold bulletinlaw23_light.f
  rw [show ((0 : Nat) : Int) = 0 from rfl] at hb
  rw [hb, Option.bind_some]
  by_cases hbt : b = true
  · rw [if_pos hbt]
    obtain ⟨h1, h2⟩ := hb2 hbt
    exact back_l0 q h1 (fun j h => h2 j h (Nat.zero_le _)) q.length 0 k [] (Nat.zero_add _) (by unfold KB; omega) rfl (Nat.zero_le _)
  · rw [if_neg hbt]
theorem mboxBack_pure (q : List S28) : bulletinlaw23_MboxBack.f 9000000 q = some true := back_all q 9000000 (by decide)
end Go.Proofs.YtcpmoolpbeeedaaGreatDoor.Q
