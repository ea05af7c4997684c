/- Right mails, plain: what their entries are, at the level of bytes; a first line tells who and when, and just one. -/
import Derived.Test.YtcpmoolpbeeedaaGreatDoorU15
import Derived.Test.YtcpmoolpbeeedaaGreatDoorU6
namespace Go.Proofs.YtcpmoolpbeeedaaGreatDoor.Q
open Go.RowKit Go.Proofs.YtcpmoolpbeeedaaGreatDoorW.PrintWords Go.Proofs.YtcpmoolpbeeedaaGreatDoorW.PrintLast Go.Proofs.YtcpmoolpbeeedaaGreatDoorW.PrintMore
set_option linter.unusedVariables false
set_option linter.unusedSimpArgs false

theorem noC_of : ∀ x : List UInt8, (∀ c ∈ x, c ≠ 13) → NoC x
  | [], _ => trivial
  | c :: x, h => noC_cons (fun e => h c (by simp) e.1) (noC_of x fun d hd => h d (by simp [hd]))
theorem mem_dots : ∀ (ps : List (List UInt8)) (c : UInt8), c ∈ dots ps → c = 46 ∨ ∃ p ∈ ps, c ∈ p
  | [], c, h => by cases h
  | [p], c, h => Or.inr ⟨p, by simp, h⟩
  | p :: q :: l, c, h => by
    have hd : dots (p :: q :: l) = p ++ 46 :: dots (q :: l) := rfl
    rw [hd, List.mem_append, List.mem_cons] at h
    rcases h with h | h | h
    · exact Or.inr ⟨p, by simp, h⟩
    · exact Or.inl h
    · rcases mem_dots (q :: l) c h with h | ⟨x, hx, h⟩
      · exact Or.inl h
      · exact Or.inr ⟨x, by simp at hx ⊢; right; exact hx, h⟩
theorem dom13 {L D : List UInt8} (R : RightAddr L D) : ∀ c ∈ D, c ≠ 13 := fun c hc => by
  rw [← show dots (Sp.splitC 46 [] D) = D from dots_split D []] at hc
  rcases mem_dots _ c hc with rfl | ⟨p, hp, h⟩
  · decide
  · intro e
    subst e
    exact (atm_facts 13 ((R.dom p hp).2 13 h)).1.1 rfl
theorem esq13 : ∀ L : List UInt8, (∀ c ∈ L, plainB c = true) → ∀ c ∈ esq L, c ≠ 13
  | [], _, c, hc => by cases hc
  | x :: L, h, c, hc => by
    rw [esq_cons, List.mem_append] at hc
    rcases hc with hc | hc
    · have hx := plain_ne x (h x (by simp))
      unfold esc1 at hc
      split at hc
      · rcases List.mem_cons.1 hc with rfl | hc
        · decide
        · obtain rfl := List.mem_singleton.1 hc
          intro e
          subst e
          exact hx rfl
      · obtain rfl := List.mem_singleton.1 hc
        intro e
        subst e
        exact hx rfl
    · exact esq13 L (fun y hy => h y (by simp [hy])) c hc
theorem addr13 {L D : List UInt8} (R : RightAddr L D) (b : Bool) : ∀ c ∈ addrL b L D, c ≠ 13 := fun c hc => by
  unfold addrL at hc
  rw [List.mem_append, List.mem_cons] at hc
  rcases hc with hc | rfl | hc
  · split at hc
    · intro e
      subst e
      exact plain_ne 13 (R.plain 13 hc) rfl
    · rw [List.mem_append, List.mem_cons] at hc
      rcases hc with (rfl | hc) | hc
      · decide
      · exact esq13 L R.plain c hc
      · obtain rfl := List.mem_singleton.1 hc
        decide
  · decide
  · exact dom13 R c hc
theorem word13 {x : List UInt8} (h : word x) : ∀ c ∈ x, c ≠ 13 := fun c hc e => by
  subst e
  have := (h.2 13 hc).1
  revert this
  decide
theorem line13 {a y m d : Int} (p : Parts a y m d) : ∀ c ∈ lineOf a y m d, c ≠ 13 := fun c hc => by
  have sm := p.small
  unfold lineOf lineL at hc
  simp only [List.mem_append, List.mem_cons] at hc
  rcases hc with hc | rfl | hc | rfl | hc | rfl | hc | rfl | hc
  · exact word13 (weekW _ (by omega) (by omega)).1 c hc
  · decide
  · exact word13 (monthW m (by omega) (by omega)).1 c hc
  · decide
  · unfold dayL at hc
    split at hc
    · rcases List.mem_cons.1 hc with rfl | hc
      · decide
      · exact word13 (itoaW d (by omega)) c hc
    · exact word13 (itoaW d (by omega)) c hc
  · decide
  · exact word13 (clockW _ _ _ (by omega) (by omega) (by omega) (by omega) (by omega) (by omega)) c hc
  · decide
  · exact word13 (itoaW y (by omega)) c hc
/-- Who a mail is from, and when: with what its first line is written of. -/
structure Who (L D : List UInt8) (a y m d : Int) (b : Bool) : Prop where
  make ::
  right : addr_Addr_Right.f K0 (mk L) (mk D) = some true
  parts : Parts a y m d
  dotted : ∀ k, K0 ≤ k → addr_Dotted.f k (mk L) = some b
  sL : L.length ≤ 25000
  sD : D.length ≤ 25000
def KB : Nat := 8000000
theorem Who.addr {L D : List UInt8} {a y m d : Int} {b : Bool} (w : Who L D a y m d b) : RightAddr L D := (rightAddr L D (by have := w.sL; omega) (by have := w.sD; omega) K0 w.right).1
def firstL (b : Bool) (L D ln : List UInt8) : List UInt8 := from5 ++ (addrL b L D ++ 32 :: ln)
theorem addrL_len (b : Bool) (L D : List UInt8) : (addrL b L D).length ≤ 2 * L.length + 3 + D.length ∧ D.length < (addrL b L D).length := by
  have := esq_len L
  unfold addrL
  split
  · simp; omega
  · simp; omega
theorem Who.text {L D : List UInt8} {a y m d : Int} {b : Bool} (w : Who L D a y m d b) (k : Nat) (hk : K0 ≤ k) : addr_Addr_Text.f k (mk L) (mk D) = some (mk (addrL b L D)) := by
  have hK : K0 = 3000400 := rfl
  have sL := w.sL
  have sD := w.sD
  obtain ⟨b', h1, h2⟩ := addrText_is L D (by omega) (by omega) w.addr.plain k (by omega)
  rw [w.dotted k hk] at h1
  obtain rfl := Option.some.inj h1
  exact h2
theorem Who.parse {L D : List UInt8} {a y m d : Int} {b : Bool} (w : Who L D a y m d b) (k : Nat) (hk : KB ≤ k) : addr_Parse.f k (mk (addrL b L D)) = some (mk L, mk D, 0) := by
  have hK : K0 = 3000400 := rfl
  have hk' : 8000000 ≤ k := hk
  have sL := w.sL
  have sD := w.sD
  have h1 : K0 + 400000 ≤ k := by rw [hK]; omega
  have h2 : K0 ≤ k := by rw [hK]; omega
  exact parse_text L D (by omega) (by omega) K0 w.right k h1 b (w.dotted k h2) (addrL b L D) rfl
theorem Who.line {L D : List UInt8} {a y m d : Int} {b : Bool} (w : Who L D a y m d b) (k : Nat) (hk : 70000 ≤ k) : date_Line.f k a = some (mk (lineOf a y m d)) := by
  obtain ⟨y', m', d', p, h⟩ := line_eq a ⟨w.parts.lo, w.parts.hi⟩
  obtain ⟨rfl, rfl, rfl⟩ := w.parts.is.one p.is
  exact h k hk
theorem line_len {a y m d : Int} (p : Parts a y m d) : (lineOf a y m d).length = 24 ∨ (lineOf a y m d).length = 25 := by
  have := (lineOf_len p).1
  have := yearW y (by have := p.small; omega)
  omega
/-- One first line, one address, one moment. -/
theorem who_one {L D L' D' : List UInt8} {a y m d a' y' m' d' : Int} {b b' : Bool} (w : Who L D a y m d b) (w' : Who L' D' a' y' m' d' b') (he : addrL b L D ++ 32 :: lineOf a y m d = addrL b' L' D' ++ 32 :: lineOf a' y' m' d') :
    L = L' ∧ D = D' ∧ a = a' := by
  have one : ∀ (X Y l l' : List UInt8), l.length < l'.length → l.length = 24 → l'.length = 25 → l'.head? ≠ some 32 → X ++ 32 :: l = Y ++ 32 :: l' → False := by
    intro X Y l l' h1 h2 h3 h4 h5
    have e := congrArg List.length h5
    simp at e
    have t : l' = 32 :: l := by
      have := congrArg (List.drop X.length) h5
      rw [List.drop_left] at this
      rw [this, show X.length = Y.length + 1 by omega, List.drop_append, List.drop_of_length_le (by omega), List.nil_append, show Y.length + 1 - Y.length = 1 by omega]
      rfl
    rw [t] at h4
    exact h4 rfl
  have l1 := line_len w.parts
  have l2 := line_len w'.parts
  have hl : (lineOf a y m d).length = (lineOf a' y' m' d').length := by
    rcases Nat.lt_trichotomy (lineOf a y m d).length (lineOf a' y' m' d').length with h | h | h
    · exact (one _ _ _ _ h (by omega) (by omega) (lineOf_len w'.parts).2.1 he).elim
    · exact h
    · exact (one _ _ _ _ h (by omega) (by omega) (lineOf_len w.parts).2.1 he.symm).elim
  obtain ⟨e1, e2⟩ := List.append_inj' he (by simp [hl])
  have p1 := w.parse KB (Nat.le_refl _)
  rw [e1, w'.parse KB (Nat.le_refl _)] at p1
  simp only [Option.some.injEq, Prod.mk.injEq] at p1
  have q1 := moment_line w.parts 1000 (Nat.le_refl _)
  rw [show lineOf a y m d = lineOf a' y' m' d' by simpa using e2, moment_line w'.parts 1000 (Nat.le_refl _)] at q1
  simp only [Option.some.injEq, Prod.mk.injEq] at q1
  have mkj : ∀ x z : List UInt8, mk x = mk z → x = z := fun x z h => by
    have := congrArg (fun q : ByteArray => q.data.toList) h
    simpa [data_mk] using this
  exact ⟨(mkj _ _ p1.1).symm, (mkj _ _ p1.2.1).symm, q1.1.symm⟩
/-- What is read as an address is right. -/
theorem parse_right (x p1 p2 : ByteArray) (k : Nat) (h : addr_Parse.f k x = some (p1, p2, 0)) (hs : p1.size ≤ 90000 ∧ p2.size ≤ 90000) : ∃ j, addr_Addr_Right.f j p1 p2 = some true := by
  unfold addr_Parse.f at h
  obtain ⟨t, ht, h⟩ := Option.bind_eq_some_iff.1 h
  by_cases h0 : t.2 = 0
  · rw [if_pos h0] at h
    obtain ⟨q, hq, h⟩ := Option.bind_eq_some_iff.1 h
    obtain ⟨q1, q2, q3⟩ := q
    simp only [Option.some.injEq, Prod.mk.injEq] at h
    obtain ⟨rfl, rfl, rfl⟩ := h
    have jj1 : ∀ (k : Nat) (x4 x6 : ByteArray) (x36 : Bool), addr_Of.j1 k x4 x6 x36 = some (q1, q2, 0) → ∃ j, addr_Addr_Right.f j q1 q2 = some true := by
      intro k x4 x6 x36 h
      cases k with
      | zero => cases h
      | succ k =>
        rw [addr_Of.j1] at h
        by_cases hx : x36 = true
        · rw [if_pos hx] at h
          simp at h
        · rw [if_neg hx] at h
          obtain ⟨f, hf, h⟩ := Option.bind_eq_some_iff.1 h
          obtain ⟨c, hc, h⟩ := Option.bind_eq_some_iff.1 h
          by_cases c0 : c = 0
          · rw [if_pos c0] at h
            simp only [Option.some.injEq, Prod.mk.injEq] at h
            obtain ⟨rfl, rfl, _⟩ := h
            subst c0
            refine ⟨k, ?_⟩
            unfold glyph_Fold.f at hf
            split at hf
            · obtain rfl := Option.some.inj hf
              have sz := hs.2
              have low2 : ∀ c : UInt8, glyph_Fold.low (glyph_Fold.low c) = glyph_Fold.low c := by
                intro c
                have hall : (List.range 256).all (fun n => decide (glyph_Fold.low (glyph_Fold.low (UInt8.ofNat n)) = glyph_Fold.low (UInt8.ofNat n))) = true := by decide +kernel
                have := of_decide_eq_true (List.all_eq_true.1 hall c.toNat (List.mem_range.2 c.toNat_lt))
                rwa [UInt8.ofNat_toNat] at this
              have gg : glyph_Fold.g (glyph_Fold.g x6) = glyph_Fold.g x6 := by
                unfold glyph_Fold.g
                simp [low2]
              unfold addr_Addr_Right.f
              rw [hc, Option.bind_some, if_pos rfl, Ad.gfold _ (by omega), Option.bind_some, gg, beq_self_eq_true]
            · cases hf
          · rw [if_neg c0] at h
            simp only [Option.some.injEq, Prod.mk.injEq] at h
            exact absurd h.2.2 c0
    have jj0 : ∀ (k : Nat) (x0 : List S158) (x4 : ByteArray) (x21 : Bool), addr_Of.j0 k x0 x4 x21 = some (q1, q2, 0) → ∃ j, addr_Addr_Right.f j q1 q2 = some true := by
      intro k x0 x4 x21 h
      cases k with
      | zero => cases h
      | succ k =>
        rw [addr_Of.j0] at h
        split at h
        · simp at h
        · split at h
          · obtain ⟨f, hf, h⟩ := Option.bind_eq_some_iff.1 h
            split at h
            · exact jj1 _ _ _ _ h
            · exact jj1 _ _ _ _ h
          · cases h
    unfold addr_Of.f at hq
    obtain ⟨f, hf, hq⟩ := Option.bind_eq_some_iff.1 hq
    split at hq
    · obtain ⟨g, hg, hq⟩ := Option.bind_eq_some_iff.1 hq
      exact jj0 _ _ _ _ hq
    · exact jj0 _ _ _ _ hq
  · rw [if_neg h0] at h
    simp at h
/-- Rightness does not turn with the rounds. -/
theorem right_at (a b : ByteArray) (ha : a.size ≤ 90000) (hb : b.size ≤ 90000) {j : Nat} (h : addr_Addr_Right.f j a b = some true) : addr_Addr_Right.f K0 a b = some true := by
  have hK : K0 = 3000400 := rfl
  obtain ⟨c, hc⟩ := Ad.why_t a b (by omega) (by omega) K0 (by omega)
  have he : ∃ r, addr_Addr_Right.f K0 a b = some r := by
    unfold addr_Addr_Right.f
    rw [hc, Option.bind_some, Ad.gfold b (by omega)]
    split
    · exact ⟨_, rfl⟩
    · exact ⟨_, rfl⟩
  obtain ⟨r, hr⟩ := he
  have e1 := up_of (addr_Addr_Right.mono _ _) h (max j K0) (Nat.le_max_left _ _)
  have e2 := up_of (addr_Addr_Right.mono _ _) hr (max j K0) (Nat.le_max_right _ _)
  rw [e1] at e2
  rw [hr, ← Option.some.inj e2]
/-- Whoever is right, at a moment that is one. -/
theorem who_of (L D : List UInt8) (a : Int) (sL : L.length ≤ 25000) (sD : D.length ≤ 25000) {j : Nat} (h : addr_Addr_Right.f j (mk L) (mk D) = some true) (ha : 0 ≤ a ∧ a ≤ 1099511627776) : ∃ y m d b, Who L D a y m d b := by
  have hK : K0 = 3000400 := rfl
  obtain ⟨y, m, d, p, _⟩ := line_eq a ha
  obtain ⟨b, hb⟩ := Ad.dotted_t (mk L) (by rw [size_mk]; omega) K0 (by rw [size_mk]; omega)
  exact ⟨y, m, d, b, right_at _ _ (by rw [size_mk]; omega) (by rw [size_mk]; omega) h, p, fun k hk => up_of (addr_Dotted.mono _) hb k hk, sL, sD⟩
theorem AT2_range (off n : Int) (h : (AT2 off n).2 = 0) : 0 ≤ (AT2 off n).1 ∧ (AT2 off n).1 ≤ 1099511627776 := by
  unfold AT2 at h ⊢
  by_cases c : 0 ≤ n - off ∧ n - off ≤ 1099511627776
  · rw [if_pos c]; exact c
  · rw [if_neg c] at h; cases h
theorem RB_range (a b c d e : List UInt8) (day : Int) (h : (RB a b c d e day).2 = 0) : 0 ≤ (RB a b c d e day).1 ∧ (RB a b c d e day).1 ≤ 1099511627776 := by
  unfold RB at h ⊢
  split at h
  · rename_i hc
    rw [if_pos hc]
    unfold AT at h ⊢
    split at h
    · rename_i h2
      rw [if_pos h2]
      split at h
      · cases h
      · rename_i h3
        rw [if_neg h3]
        exact AT2_range _ _ h
    · rename_i h2
      exact absurd h h2
  · cases h
theorem RDW_range (ws : List (List UInt8)) (h : (RDW ws).2 = 0) : 0 ≤ (RDW ws).1 ∧ (RDW ws).1 ≤ 1099511627776 := by
  unfold RDW at h ⊢
  split at h
  · split at h
    · cases h
    · rename_i h1
      rw [if_neg h1]
      exact RB_range _ _ _ _ _ _ h
  · exact RB_range _ _ _ _ _ _ h
  · cases h
theorem moment_range (x : ByteArray) (hx : x.size ≤ 30) (k : Nat) (hk : 70000 ≤ k) (n : Int) (h : mbox_moment.f k x = some (n, true)) : 0 ≤ n ∧ n ≤ 1099511627776 := by
  unfold mbox_moment.f strings_Fields.f at h
  rw [if_pos (by omega), Option.bind_some] at h
  generalize hfs : ((Lib.fieldsD x.data.toList).map fun y => (⟨y.toArray⟩ : ByteArray)) = fs at h
  have hf : ∀ y ∈ fs, y.size ≤ 30 := by
    intro y hy
    rw [← hfs] at hy
    obtain ⟨z, hz, rfl⟩ := List.mem_map.1 hy
    have := fields_len _ [] _ z hz
    have e : x.data.toList.length = x.size := Array.length_toList
    have e2 : (⟨z.toArray⟩ : ByteArray).size = z.length := by simp [ByteArray.size]
    rw [e2]
    simp only [List.length_nil, Nat.zero_add] at this
    omega
  by_cases h5 : (fs.length : Int) = 5
  · have r1 := rdOf_size fs 30 hf 1
    have r2 := rdOf_size fs 30 hf 2
    have r3 := rdOf_size fs 30 hf 3
    have r4 := rdOf_size fs 30 hf 4
    rw [if_pos h5, if_pos (by omega), if_pos (by omega), if_pos (by omega), if_pos (by omega), if_pos (by omega), if_pos (by omega), if_pos (by omega), if_pos (by omega), if_pos (by omega), if_pos (by omega), if_pos (by omega)] at h
    generalize hz : ((((((((rdOf ByteArray.empty fs 2) ++ (⟨#[32]⟩ : ByteArray)) ++ (rdOf ByteArray.empty fs 1)) ++ (⟨#[32]⟩ : ByteArray)) ++ (rdOf ByteArray.empty fs 4)) ++ (⟨#[32]⟩ : ByteArray)) ++ (rdOf ByteArray.empty fs 3)) ++ (⟨#[32, 90]⟩ : ByteArray)) = z at h
    have hzs : z.size ≤ 300 := by
      rw [← hz]
      have s1 : (⟨#[32]⟩ : ByteArray).size = 1 := rfl
      have s2 : (⟨#[32, 90]⟩ : ByteArray).size = 2 := rfl
      simp only [ByteArray.size_append, s1, s2]
      omega
    have hr := read_is k (by omega) z.data.toList (by have : z.data.toList.length = z.size := Array.length_toList
                                                      omega)
    rw [bb_mk] at hr
    rw [hr, Option.bind_some] at h
    simp only [Option.some.injEq, Prod.mk.injEq, beq_iff_eq] at h
    rw [← h.1]
    exact RDW_range _ h.2
  · rw [if_neg h5] at h
    simp at h
end Go.Proofs.YtcpmoolpbeeedaaGreatDoor.Q
