/- ScriptBack, plain. -/
import Derived.Test.YtcgfaagadejpmaaDoorP8
namespace Go.Proofs.YtcgfaagadejpmaaDoor.Q
open Go.RowKit Go.Proofs.YtcgfaagadejpmaaDoorW.PrintWords Go.Proofs.YtcgfaagadejpmaaDoorW.PrintLast Go.Proofs.YtcgfaagadejpmaaDoorW.PrintMore Sp

/-- A step that is shown as y, which is told as it. -/
def Shown (s : S30) (y : List UInt8) : Prop := (∀ k, 100001 ≤ k → script_Show.f k s.f0 s.f1 s.f2 s.f3 s.f4 = some (mk y)) ∧ (∀ k, 100001 ≤ k → script_line.f k (mk y) = some (s.f0, s.f1, s.f2, s.f3, s.f4, 0)) ∧ (10 : UInt8) ∉ y ∧ y ≠ [] ∧ y.head? ≠ some 35 ∧ y.length ≤ 13000
theorem g_one {line : ByteArray → Option LR} {acc : List S30} {n : Nat} {c : UInt8} {x : List UInt8} {xs : List ByteArray} (hc : c ≠ 35) :
    script_Read.g line acc n (mk (c :: x) :: xs) = (line (mk (c :: x))).bind fun t => (
      if t.2.2.2.2.2 = 0 then (if acc.length = 200 then some ([], ((n + 1 : Nat) : Int), 8) else script_Read.g line (acc ++ [⟨t.1, t.2.1, t.2.2.1, t.2.2.2.1, t.2.2.2.2.1⟩]) (n + 1) xs)
      else some ([], ((n + 1 : Nat) : Int), t.2.2.2.2.2)) := by
  rw [script_Read.g, if_neg]
  rintro (h | h)
  · rw [show (mk (c :: x)).toList = c :: x from toList_mk _] at h
    cases h
  · have := bt_list (c :: x) 0 (by simp)
    rw [show bt (mk (c :: x)) 0 = (c.toNat : Int) from this] at h
    exact hc (UInt8.toNat_inj.1 (by simpa using (by omega : c.toNat = 35)))
theorem read_fwd (k : Nat) (hk : 100001 ≤ k) : ∀ (l : List (List UInt8)) (acc : List S30) (n : Nat), (∀ x ∈ l, x.length ≤ 3000 ∧ (10 : UInt8) ∉ x) → (∀ s ∈ acc, ∃ y, Shown s y) → acc.length ≤ 200 →
    ∃ r, script_Read.g (script_line.f k) acc n (l.map mk) = some r ∧ (r.2.2 = 0 → (∀ s ∈ r.1, ∃ y, Shown s y) ∧ r.1.length ≤ 200) ∧ (r.2.2 ≠ 0 → r.1 = [])
  | [], acc, n, _, ha, hn => ⟨_, rfl, fun _ => ⟨ha, hn⟩, fun h => absurd rfl h⟩
  | x :: xs, acc, n, hl, ha, hn => by
    have hxs : ∀ x ∈ xs, x.length ≤ 3000 ∧ (10 : UInt8) ∉ x := fun y hy => hl y (by simp [hy])
    have skip : x = [] ∨ x.head? = some 35 → ∃ r, script_Read.g (script_line.f k) acc n ((x :: xs).map mk) = some r ∧ (r.2.2 = 0 → (∀ s ∈ r.1, ∃ y, Shown s y) ∧ r.1.length ≤ 200) ∧ (r.2.2 ≠ 0 → r.1 = []) := fun h => by
      rw [List.map_cons, g_skip h]
      exact read_fwd k hk xs acc (n + 1) hxs ha hn
    cases x with
    | nil => exact skip (.inl rfl)
    | cons c x =>
      by_cases hc : c = 35
      · subst hc
        exact skip (.inr rfl)
      · obtain ⟨h1, h2⟩ := hl (c :: x) (by simp)
        obtain ⟨r, hr, hok⟩ := told 0 (c :: x) h1 h2
        have hup : ∀ k, 100001 ≤ k → script_line.f k (mk (c :: x)) = some r := up_of (script_line.mono _) hr
        rw [List.map_cons, g_one hc, hup k hk]
        dsimp only [Option.bind_some]
        by_cases h0 : r.2.2.2.2.2 = 0
        · rw [if_pos h0]
          by_cases hn2 : acc.length = 200
          · rw [if_pos hn2]
            exact ⟨_, rfl, fun h => absurd h (show ¬ (8 : Int) = 0 by decide), fun _ => rfl⟩
          · rw [if_neg hn2]
            refine read_fwd k hk xs _ (n + 1) hxs ?_ (by simp; omega)
            intro s hs
            rcases List.mem_append.1 hs with hs | hs
            · exact ha s hs
            · obtain rfl := List.mem_singleton.1 hs
              obtain ⟨y, y1, y2, y3, y4, y5, y6⟩ := hok h0
              refine ⟨y, up_of (script_Show.mono _ _ _ _ _) y1, ?_, y3, y4, y5, y6⟩
              have e : r = (r.1, r.2.1, r.2.2.1, r.2.2.2.1, r.2.2.2.2.1, 0) := by rw [← h0]
              exact fun k hk => (up_of (script_line.mono _) y2 k hk).trans (congrArg some e)
        · rw [if_neg h0]
          exact ⟨_, rfl, fun h => absurd h h0, fun _ => rfl⟩
def lns (note : List UInt8) (P : List (S30 × List UInt8)) : List (List UInt8) := P.flatMap fun p => [p.2, 35 :: note, []]
theorem read_back (note : List UInt8) (k : Nat) (hk : 100001 ≤ k) : ∀ (P : List (S30 × List UInt8)) (acc : List S30) (n : Nat), (∀ p ∈ P, Shown p.1 p.2) → acc.length + P.length ≤ 200 →
    script_Read.g (script_line.f k) acc n ((lns note P).map mk ++ [mk []]) = some (acc ++ P.map Prod.fst, 0, 0)
  | [], acc, n, _, _ => by
    show script_Read.g (script_line.f k) acc n [mk []] = _
    rw [g_skip (.inl rfl), script_Read.g]
    simp
  | p :: P, acc, n, hP, hn => by
    obtain ⟨y1, y2, y3, y4, y5, y6⟩ := hP p (by simp)
    simp only [List.length_cons] at hn
    have e : (lns note (p :: P)).map mk ++ [mk []] = mk p.2 :: mk (35 :: note) :: mk [] :: ((lns note P).map mk ++ [mk []]) := rfl
    rw [e]
    obtain ⟨s, y⟩ := p
    cases y with
    | nil => exact absurd rfl y4
    | cons c x =>
      have hc : c ≠ 35 := fun h => y5 (by rw [h]; rfl)
      rw [g_step (s := s) hc (y2 k hk), if_neg (by omega), g_skip (.inr rfl), g_skip (.inl rfl), read_back note k hk P _ _ (fun q hq => hP q (by simp [hq])) (by simp; omega)]
      simp
theorem lns_no (note : List UInt8) (hn : (10 : UInt8) ∉ note) : ∀ (P : List (S30 × List UInt8)), (∀ p ∈ P, Shown p.1 p.2) → ∀ x ∈ lns note P, (10 : UInt8) ∉ x
  | [], _, x, h => by cases h
  | p :: P, hP, x, h => by
    have e : lns note (p :: P) = p.2 :: (35 :: note) :: [] :: lns note P := rfl
    rw [e] at h
    rcases List.mem_cons.1 h with rfl | h
    · exact (hP p (by simp)).2.2.1
    rcases List.mem_cons.1 h with rfl | h
    · intro h
      rcases List.mem_cons.1 h with h | h
      · exact absurd h (by decide)
      · exact hn h
    rcases List.mem_cons.1 h with rfl | h
    · simp
    · exact lns_no note hn P (fun q hq => hP q (by simp [hq])) x h
def txt (note : List UInt8) (P : List (S30 × List UInt8)) : List UInt8 := ends (lns note P)
theorem txt_snoc (note : List UInt8) (P : List (S30 × List UInt8)) (p : S30 × List UInt8) : txt note (P ++ [p]) = txt note P ++ (p.2 ++ ([10, 35] ++ (note ++ [10, 10]))) := by
  unfold txt lns
  rw [List.flatMap_append, ends_append]
  simp [ends]
theorem txt_len (note : List UInt8) (hn : note.length ≤ 100) : ∀ (P : List (S30 × List UInt8)), (∀ p ∈ P, Shown p.1 p.2) → (txt note P).length ≤ 13200 * P.length
  | [], _ => by simp [txt, lns, ends]
  | p :: P, hP => by
    have ih := txt_len note hn P (fun q hq => hP q (by simp [hq]))
    have h6 := (hP p (by simp)).2.2.2.2.2
    have e : txt note (p :: P) = p.2 ++ 10 :: (35 :: note ++ 10 :: ([] ++ 10 :: txt note P)) := rfl
    rw [e]
    simp only [List.length_append, List.length_cons, List.length_nil]
    omega
theorem back_read (note : List UInt8) (h10 : (10 : UInt8) ∉ note) (hn : note.length ≤ 100) (P : List (S30 × List UInt8)) (hP : ∀ p ∈ P, Shown p.1 p.2) (hl : P.length ≤ 200) (k : Nat) (hk : 100001 ≤ k) :
    script_Read.f k (mk (txt note P)) = some (P.map Prod.fst, 0, 0) := by
  have := txt_len note hn P hP
  unfold script_Read.f
  rw [size_mk, if_pos (by omega)]
  unfold txt
  rw [parts_ends _ (lns_no note h10 P hP), read_back note k hk P [] 0 hP (by simpa using hl)]
  rfl
theorem back_l2 (L : List S30) (hl : L.length ≤ 200) : ∀ (m i k : Nat), i + m = L.length → m < k → bulletinlaw48_ScriptBack.l2 k L L (L.length : Int) (i : Int) = some true
  | 0, i, k, hi, hk => by
    obtain ⟨k, rfl⟩ : ∃ j, k = j + 1 := ⟨k - 1, by omega⟩
    unfold bulletinlaw48_ScriptBack.l2
    rw [if_neg (by omega)]
  | m + 1, i, k, hi, hk => by
    obtain ⟨k, rfl⟩ : ∃ j, k = j + 1 := ⟨k - 1, by omega⟩
    unfold bulletinlaw48_ScriptBack.l2
    rw [if_pos (by omega), if_pos (by omega), if_pos (by omega), if_pos (by omega), if_neg (by simp), wrap_nat i (by omega)]
    exact back_l2 L hl m (i + 1) k (by omega) (by omega)
theorem rd_mid (P1 P2 : List (S30 × List UInt8)) (p : S30 × List UInt8) : rd_T30 ((P1 ++ p :: P2).map Prod.fst) (P1.length : Int) = p.1 := by
  unfold rd_T30
  simp [List.getD_eq_getElem?_getD]
theorem back_l1 (note : List UInt8) (h10 : (10 : UInt8) ∉ note) (hn : note.length ≤ 100) : ∀ (P2 P1 : List (S30 × List UInt8)) (k : Nat), (∀ p ∈ P1 ++ P2, Shown p.1 p.2) → (P1 ++ P2).length ≤ 200 → 100300 + P2.length < k →
    bulletinlaw48_ScriptBack.l1 k (mk note) ((P1 ++ P2).map Prod.fst) (mk (txt note P1)) ((((P1 ++ P2).map Prod.fst).length : Nat) : Int) (P1.length : Int) = some true
  | [], P1, k, hP, hl, hk => by
    obtain ⟨k, rfl⟩ : ∃ j, k = j + 1 := ⟨k - 1, by omega⟩
    simp only [List.append_nil] at *
    simp only [List.length_nil] at hk
    unfold bulletinlaw48_ScriptBack.l1
    rw [if_neg (by rw [List.length_map]; omega), back_read note h10 hn P1 hP hl k (by omega)]
    dsimp only [Option.bind_some]
    rw [if_pos rfl, if_pos rfl]
    obtain ⟨k, rfl⟩ : ∃ j, k = j + 1 := ⟨k - 1, by omega⟩
    rw [bulletinlaw48_ScriptBack.j3, if_neg (by simp)]
    exact back_l2 _ (by simpa using hl) _ 0 k (Nat.zero_add _) (by rw [List.length_map]; omega)
  | p :: P2, P1, k, hP, hl, hk => by
    obtain ⟨k, rfl⟩ : ∃ j, k = j + 1 := ⟨k - 1, by omega⟩
    have hp := hP p (by simp)
    have hP1 : ∀ p ∈ P1, Shown p.1 p.2 := fun q hq => hP q (by simp [hq])
    have ht := txt_len note hn P1 hP1
    have h6 := hp.2.2.2.2.2
    have hl' := hl
    simp only [List.length_append, List.length_cons] at hl hk
    unfold bulletinlaw48_ScriptBack.l1
    rw [if_pos (by rw [List.length_map, List.length_append, List.length_cons]; omega), if_pos (by omega), if_pos (by rw [List.length_map, List.length_append, List.length_cons]; omega), rd_mid, hp.1 k (by omega)]
    dsimp only [Option.bind_some]
    rw [size_mk, size_mk, size_mk, if_pos (by omega), if_pos (by omega), if_pos (by omega), if_pos (by omega), wrap_nat _ (by omega)]
    have e : mk (txt note P1) ++ (((mk p.2 ++ (⟨#[10, 35]⟩ : ByteArray)) ++ mk note) ++ (⟨#[10, 10]⟩ : ByteArray)) = mk (txt note (P1 ++ [p])) := by
      rw [txt_snoc, show (⟨#[10, 35]⟩ : ByteArray) = mk [10, 35] from rfl, show (⟨#[10, 10]⟩ : ByteArray) = mk [10, 10] from rfl]
      simp only [mk_append, List.append_assoc]
    rw [e]
    have ih := back_l1 note h10 hn P2 (P1 ++ [p]) k (by simpa using hP) (by simpa using hl') (by omega)
    simp only [List.append_assoc, List.singleton_append, List.length_append, List.length_singleton] at ih
    simpa using ih
theorem back_l0 (t note : List UInt8) (hn : note.length ≤ 100) (ht : t.length ≤ 3000) : ∀ (m i k : Nat), i + m = note.length → 101000 + m < k → (∀ j (h : j < note.length), j < i → note[j] ≠ 10) →
    bulletinlaw48_ScriptBack.l0 k (mk t) (mk note) (note.length : Int) (i : Int) = some true
  | 0, i, k, hi, hk, ho => by
    obtain ⟨k, rfl⟩ : ∃ j, k = j + 1 := ⟨k - 1, by omega⟩
    have h10 : (10 : UInt8) ∉ note := by
      intro h
      obtain ⟨j, hj, e⟩ := List.mem_iff_getElem.1 h
      exact ho j hj (by omega) e
    unfold bulletinlaw48_ScriptBack.l0
    rw [if_neg (by omega)]
    unfold script_Read.f
    rw [size_mk, if_pos (by omega)]
    have hls : ∀ x ∈ splitC 10 [] t, x.length ≤ 3000 ∧ (10 : UInt8) ∉ x := fun x hx => by
      have := splitC_sub 10 t [] x hx
      simp only [List.length_nil, Nat.zero_add] at this
      exact ⟨by omega, splitC_no 10 t [] x (by simp) hx⟩
    obtain ⟨r, hr, h0, h1⟩ := read_fwd k (by omega) (splitC 10 [] t) [] 0 hls (by simp) (by simp)
    have e : parts 10 (mk t) = (splitC 10 [] t).map mk := by
      unfold parts
      rw [data_mk]
      rfl
    rw [e, hr]
    dsimp only [Option.bind_some]
    by_cases hc : r.2.2 = 0
    · rw [if_pos hc]
      obtain ⟨hs, hl⟩ := h0 hc
      have hP : ∀ L : List S30, (∀ s ∈ L, ∃ y, Shown s y) → ∃ P : List (S30 × List UInt8), P.map Prod.fst = L ∧ ∀ p ∈ P, Shown p.1 p.2 := by
        intro L
        induction L with
        | nil => exact fun _ => ⟨[], rfl, by simp⟩
        | cons s L ih =>
          intro h
          obtain ⟨P, h1, h2⟩ := ih fun q hq => h q (by simp [hq])
          obtain ⟨y, hy⟩ := h s (by simp)
          refine ⟨(s, y) :: P, by simp [h1], ?_⟩
          intro p hp
          rcases List.mem_cons.1 hp with rfl | hp
          · exact hy
          · exact h2 p hp
      obtain ⟨P, hP1, hP2⟩ := hP r.1 hs
      have hPl : P.length ≤ 200 := by rw [← hP1, List.length_map] at hl; exact hl
      have := back_l1 note h10 hn P [] k hP2 hPl (by omega)
      rw [List.nil_append, hP1] at this
      exact this
    · rw [if_neg hc, h1 hc]
      rfl
  | m + 1, i, k, hi, hk, ho => by
    obtain ⟨k, rfl⟩ : ∃ j, k = j + 1 := ⟨k - 1, by omega⟩
    unfold bulletinlaw48_ScriptBack.l0
    rw [if_pos (by omega), if_pos (by omega), size_mk, if_pos (by omega), show bt (mk note) (i : Int) = _ from bt_list note i (by omega)]
    by_cases h : ((note[i]'(by omega)).toNat : Int) = 10
    · rw [if_pos h]
    · rw [if_neg h, wrap_nat i (by omega)]
      refine back_l0 t note hn ht m (i + 1) k (by omega) (by omega) ?_
      intro j hj hji e
      by_cases hj2 : j = i
      · subst hj2
        rw [e] at h
        exact h rfl
      · exact ho j hj (by omega) e
theorem scriptBack_pure (a0 a1 : ByteArray) : bulletinlaw48_ScriptBack.f 102000 a0 a1 = some true := by
  have hw : bulletinlaw48_ScriptBack.j0 (101999 + 1) a0 a1 true = some true := by
    rw [bulletinlaw48_ScriptBack.j0, if_pos rfl]
  unfold bulletinlaw48_ScriptBack.f
  rw [works_up 102000 (by decide)]
  dsimp only [Option.bind_some]
  rw [if_pos rfl]
  by_cases h0 : (a0.size : Int) > 3000
  · rw [if_pos h0]; exact hw
  rw [if_neg h0]
  by_cases h1 : (a1.size : Int) > 100
  · rw [decide_eq_true h1]; exact hw
  rw [decide_eq_false h1]
  obtain ⟨t, rfl⟩ := list_eq a0
  obtain ⟨note, rfl⟩ := list_eq a1
  rw [size_list] at h0 h1
  show (if false = true then some true else bulletinlaw48_ScriptBack.l0 101999 ⟨t.toArray⟩ ⟨note.toArray⟩ ((⟨note.toArray⟩ : ByteArray).size : Int) 0) = some true
  rw [if_neg (by decide), size_list]
  exact back_l0 t note (by omega) (by omega) note.length 0 101999 (by omega) (by omega) (fun j _ h => absurd h (by omega))
end Go.Proofs.YtcgfaagadejpmaaDoor.Q
