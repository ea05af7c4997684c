-- Texts of this session put together by a program of it (wip/pack.py).
import Derived.Test.YtpniccllpfonfaaGreatDoorKG3
import Derived.Test.YtpniccllpfonfaaGreatDoorKBase
import Derived.Test.YtpniccllpfonfaaGreatDoorKMd
namespace Go.Proofs.YtpniccllpfonfaaGreatDoor.St
open Go Go.RowKit Go.Proofs.YtpniccllpfonfaaGreatDoor.Wd
theorem lt_irr (l : List UInt8) : ¬ l < l := List.lt_irrefl l
/-- Where a key that is there stands. -/
theorem place_mem {α : Type} {f : α → ByteArray} {l : List α} (hs : Sorted (l.map f)) {x : α} (hx : x ∈ l) : ∃ h : place (l.map f) (f x) < l.length, l[place (l.map f) (f x)] = x := by
  obtain ⟨j, hj, rfl⟩ := List.mem_iff_getElem.1 hx
  have hj' : j < (l.map f).length := by rw [List.length_map]; exact hj
  have e : place (l.map f) (f l[j]) = j := by
    refine place_eq (l.map f) (f l[j]) j (Nat.le_of_lt hj') (fun i hi h => ?_) (fun h => ?_)
    · have := sorted_lt hs h hj'
      simpa using this
    · simp only [List.getElem_map]
      exact lt_irr _
  exact ⟨by rw [e]; exact hj, by simp only [e]⟩
theorem place_at_mem {α : Type} {f : α → ByteArray} {l : List α} (hs : Sorted (l.map f)) {x : α} (hx : x ∈ l) : l[place (l.map f) (f x)]? = some x := by
  obtain ⟨h, e⟩ := place_mem hs hx
  rw [List.getElem?_eq_getElem h, e]
theorem sorted_one {α : Type} {f : α → ByteArray} {l : List α} (hs : Sorted (l.map f)) {x y : α} (hx : x ∈ l) (hy : y ∈ l) (h : f x = f y) : x = y := by
  obtain ⟨h1, e1⟩ := place_mem hs hx
  obtain ⟨h2, e2⟩ := place_mem hs hy
  simp only [h] at e1
  exact e1.symm.trans e2
theorem there_iff {α : Type} {f : α → ByteArray} {l : List α} (hs : Sorted (l.map f)) (k : ByteArray) : (l.map f)[place (l.map f) k]? = some k ↔ ∃ x ∈ l, f x = k := by
  constructor
  · intro h
    obtain ⟨x, hx, he⟩ := List.mem_map.1 (List.mem_of_getElem? h)
    exact ⟨x, hx, he⟩
  · rintro ⟨x, hx, rfl⟩
    obtain ⟨h1, e1⟩ := place_mem hs hx
    rw [List.getElem?_map, List.getElem?_eq_getElem h1, e1]
    rfl
section
variable {cs : List Ch} {l : List Pr} {key : ByteArray}
theorem getC_some {c : Ch} (hs : Sorted (keysC cs)) : getC cs key = some c ↔ c ∈ cs ∧ c.key = key := by
  unfold getC thereC
  constructor
  · intro h
    split at h
    · rename_i ht
      have h1 := List.mem_of_getElem? h
      obtain ⟨x, hx, hk⟩ := (there_iff (f := Ch.key) hs key).1 (of_decide_eq_true ht)
      subst hk
      have e3 : cs[place (keysC cs) x.key]? = some x := place_at_mem (f := Ch.key) hs hx
      rw [e3] at h
      obtain rfl := Option.some.inj h
      exact ⟨hx, rfl⟩
    · cases h
  · rintro ⟨hc, rfl⟩
    have ht : decide ((keysC cs)[place (keysC cs) c.key]? = some c.key) = true := decide_eq_true ((there_iff (f := Ch.key) hs c.key).2 ⟨c, hc, rfl⟩)
    rw [if_pos ht]
    exact place_at_mem (f := Ch.key) hs hc
theorem getC_none (hs : Sorted (keysC cs)) : getC cs key = none ↔ ∀ c ∈ cs, c.key ≠ key := by
  constructor
  · intro h c hc hk
    rw [(getC_some hs).2 ⟨hc, hk⟩] at h
    cases h
  · intro h
    cases hg : getC cs key with
    | none => rfl
    | some c =>
      obtain ⟨h1, h2⟩ := (getC_some hs).1 hg
      exact absurd h2 (h c h1)
theorem getP_some {v : ByteArray} (hs : Sorted (keys l)) : getP l key = some v ↔ (⟨key, v⟩ : Pr) ∈ l := by
  unfold getP thereP
  constructor
  · intro h
    split at h
    · rename_i ht
      obtain ⟨x, hx, hk⟩ := (there_iff (f := Pr.key) hs key).1 (of_decide_eq_true ht)
      subst hk
      have e3 : l[place (keys l) x.key]? = some x := place_at_mem (f := Pr.key) hs hx
      rw [e3] at h
      obtain rfl : x.val = v := by simpa using h
      exact hx
    · cases h
  · intro hx
    have ht : decide ((keys l)[place (keys l) key]? = some key) = true := decide_eq_true ((there_iff (f := Pr.key) hs key).2 ⟨_, hx, rfl⟩)
    have e3 : l[place (keys l) key]? = some (⟨key, v⟩ : Pr) := place_at_mem (f := Pr.key) hs hx
    rw [if_pos ht, e3]
    rfl
theorem getP_none (hs : Sorted (keys l)) : getP l key = none ↔ ∀ x ∈ l, x.key ≠ key := by
  constructor
  · intro h x hx hk
    subst hk
    rw [(getP_some hs).2 (show (⟨x.key, x.val⟩ : Pr) ∈ l from hx)] at h
    cases h
  · intro h
    cases hg : getP l key with
    | none => rfl
    | some v => exact absurd rfl (h _ ((getP_some hs).1 hg))
theorem mem_ins {α : Type} {l : List α} {i : Nat} {x y : α} : y ∈ insAt l i x ↔ y = x ∨ y ∈ l := by
  unfold insAt
  have h : y ∈ l ↔ y ∈ l.take i ∨ y ∈ l.drop i := by
    conv => lhs; rw [← List.take_append_drop i l]
    exact List.mem_append
  rw [List.mem_append, List.mem_cons, h]
  constructor
  · rintro (h | h | h)
    · exact .inr (.inl h)
    · exact .inl h
    · exact .inr (.inr h)
  · rintro (h | h | h)
    · exact .inr (.inl h)
    · exact .inl h
    · exact .inr (.inr h)
theorem mem_set_at {α : Type} {f : α → ByteArray} {l : List α} (hs : Sorted (l.map f)) {p : Nat} (hp : p < l.length) {x y : α} (he : f l[p] = f x) : y ∈ l.set p x ↔ y = x ∨ (y ∈ l ∧ f y ≠ f x) := by
  constructor
  · intro h
    obtain ⟨j, hj, rfl⟩ := List.mem_iff_getElem.1 h
    rw [List.length_set] at hj
    rw [List.getElem_set]
    split
    · exact .inl rfl
    · rename_i hne
      refine .inr ⟨List.getElem_mem hj, fun e => hne ?_⟩
      have hpl : p < (l.map f).length := by rw [List.length_map]; exact hp
      have hjl : j < (l.map f).length := by rw [List.length_map]; exact hj
      rcases Nat.lt_or_gt_of_ne hne with h | h
      · have := sorted_lt hs h hjl
        simp only [List.getElem_map, he, e] at this
        exact absurd this (lt_irr _)
      · have := sorted_lt hs h hpl
        simp only [List.getElem_map, he, e] at this
        exact absurd this (lt_irr _)
  · rintro (rfl | ⟨h, hk⟩)
    · exact List.mem_iff_getElem.2 ⟨p, by rw [List.length_set]; exact hp, by simp⟩
    · obtain ⟨j, hj, rfl⟩ := List.mem_iff_getElem.1 h
      refine List.mem_iff_getElem.2 ⟨j, by rw [List.length_set]; exact hj, ?_⟩
      rw [List.getElem_set, if_neg (fun e => hk (by subst e; exact he))]
theorem mem_chg {c x : Ch} (hs : Sorted (keysC cs)) (h0 : fitsC c = 0) (hf : cs.length < 2000) : x ∈ (chg cs c).2 ↔ x = c ∨ (x ∈ cs ∧ x.key ≠ c.key) := by
  rw [chg, if_neg (by rw [h0]; decide)]
  split
  · rename_i ht
    have hp := there_lt ht
    have h1 : (keysC cs)[place (keysC cs) c.key]? = some c.key := of_decide_eq_true ht
    have h2 : cs[place (keysC cs) c.key].key = c.key := by
      have h3 : (keysC cs)[place (keysC cs) c.key]? = (cs[place (keysC cs) c.key]?).map (·.key) := List.getElem?_map ..
      rw [h3, List.getElem?_eq_getElem hp] at h1
      exact Option.some.inj h1
    exact mem_set_at (f := Ch.key) hs hp h2
  · rename_i ht
    rw [if_neg (by omega)]
    have h1 : ¬ ∃ y ∈ cs, y.key = c.key := fun h => ht (decide_eq_true ((there_iff (f := Ch.key) hs c.key).2 h))
    rw [mem_ins]
    constructor
    · rintro (h | h)
      · exact .inl h
      · exact .inr ⟨h, fun e => h1 ⟨x, h, e⟩⟩
    · rintro (h | ⟨h, _⟩)
      · exact .inl h
      · exact .inr h
theorem mem_done {c : Ch} {x : Pr} (hs : Sorted (keys l)) (hg : c.gone = false) : x ∈ doneL l c ↔ x = ⟨c.key, c.val⟩ ∨ (x ∈ l ∧ x.key ≠ c.key) := by
  rw [doneL, if_neg (by rw [hg]; decide)]
  split
  · rename_i ht
    exact mem_set_at (f := Pr.key) (x := ⟨c.key, c.val⟩) hs (thereP_lt ht) (thereP_key ht)
  · rename_i ht
    have h1 : ¬ ∃ y ∈ l, y.key = c.key := fun h => ht (decide_eq_true ((there_iff (f := Pr.key) hs c.key).2 h))
    rw [mem_ins]
    constructor
    · rintro (h | h)
      · exact .inl h
      · exact .inr ⟨h, fun e => h1 ⟨x, h, e⟩⟩
    · rintro (h | ⟨h, _⟩)
      · exact .inl h
      · exact .inr h
theorem sorted_cons {c : Ch} (h : Sorted (keysC (c :: cs))) : Sorted (keysC cs) ∧ ∀ d ∈ cs, c.key ≠ d.key := by
  have h1 : (c.key :: keysC cs).Pairwise (fun a b => a.toList < b.toList) := h
  rw [List.pairwise_cons] at h1
  refine ⟨h1.2, fun d hd e => ?_⟩
  have := h1.1 d.key (List.mem_map_of_mem hd)
  rw [e] at this
  exact absurd this (lt_irr _)
theorem mem_commit {x : Pr} : ∀ {cs : List Ch} {l : List Pr}, Sorted (keysC cs) → (∀ c ∈ cs, c.gone = false) → Sorted (keys l) → (x ∈ commitL l cs ↔ (∃ c ∈ cs, x = ⟨c.key, c.val⟩) ∨ (x ∈ l ∧ ∀ c ∈ cs, x.key ≠ c.key))
  | [], l, _, _, _ => by simp [commitL]
  | c :: cs, l, hs, hg, hl => by
    obtain ⟨hs2, hne⟩ := sorted_cons hs
    have ih := mem_commit (x := x) (cs := cs) (l := doneL l c) hs2 (fun d hd => hg d (List.mem_cons_of_mem _ hd)) (doneL_sorted hl c)
    show x ∈ commitL (doneL l c) cs ↔ _
    rw [ih, mem_done hl (hg c (List.mem_cons_self ..))]
    constructor
    · rintro (⟨d, hd, e⟩ | ⟨e | ⟨h1, h2⟩, h3⟩)
      · exact .inl ⟨d, List.mem_cons_of_mem _ hd, e⟩
      · exact .inl ⟨c, List.mem_cons_self .., e⟩
      · refine .inr ⟨h1, fun d hd => ?_⟩
        rcases List.mem_cons.1 hd with rfl | hd
        · exact h2
        · exact h3 d hd
    · rintro (⟨d, hd, e⟩ | ⟨h1, h2⟩)
      · rcases List.mem_cons.1 hd with rfl | hd
        · refine .inr ⟨.inl e, fun d' hd' => ?_⟩
          rw [e]
          exact hne d' hd'
        · exact .inl ⟨d, hd, e⟩
      · exact .inr ⟨.inr ⟨h1, h2 c (List.mem_cons_self ..)⟩, fun d hd => h2 d (List.mem_cons_of_mem _ hd)⟩
theorem see_same {c : Ch} (hs : Sorted (keysC cs)) (hs' : Sorted (keysC (chg cs c).2)) (h0 : fitsC c = 0) (hf : cs.length < 2000) : see (chg cs c).2 l c.key = (c.val, !c.gone) := by
  have h : getC (chg cs c).2 c.key = some c := (getC_some hs').2 ⟨(mem_chg hs h0 hf).2 (.inl rfl), rfl⟩
  rw [see, h]
theorem see_other {c : Ch} {k : ByteArray} (hs : Sorted (keysC cs)) (hs' : Sorted (keysC (chg cs c).2)) (h0 : fitsC c = 0) (hf : cs.length < 2000) (hk : k ≠ c.key) : see (chg cs c).2 l k = see cs l k := by
  have h : getC (chg cs c).2 k = getC cs k := by
    cases hg : getC cs k with
    | some d =>
      obtain ⟨h1, h2⟩ := (getC_some hs).1 hg
      exact (getC_some hs').2 ⟨(mem_chg hs h0 hf).2 (.inr ⟨h1, h2 ▸ hk⟩), h2⟩
    | none =>
      have h1 := (getC_none hs).1 hg
      refine (getC_none hs').2 fun d hd => ?_
      rcases (mem_chg hs h0 hf).1 hd with rfl | ⟨h2, _⟩
      · exact fun e => hk e.symm
      · exact h1 d h2
  rw [see, see, h]
theorem see_commit (hs : Sorted (keysC cs)) (hg : ∀ c ∈ cs, c.gone = false) (hl : Sorted (keys l)) (hl' : Sorted (keys (commitL l cs))) (k : ByteArray) : see [] (commitL l cs) k = see cs l k := by
  have h0 : getC [] k = none := by simp [getC, thereC, keysC, place]
  cases hc : getC cs k with
  | some c =>
    obtain ⟨h1, rfl⟩ := (getC_some hs).1 hc
    have h2 : getP (commitL l cs) c.key = some c.val := (getP_some hl').2 ((mem_commit hs hg hl).2 (.inl ⟨c, h1, rfl⟩))
    rw [see, see, h0, hc, h2]
    simp [hg c h1]
  | none =>
    have h1 := (getC_none hs).1 hc
    have h2 : getP (commitL l cs) k = getP l k := by
      cases hp : getP l k with
      | some v =>
        have h3 := (getP_some hl).1 hp
        exact (getP_some hl').2 ((mem_commit hs hg hl).2 (.inr ⟨h3, fun c hcm => fun e => h1 c hcm e.symm⟩))
      | none =>
        have h3 := (getP_none hl).1 hp
        refine (getP_none hl').2 fun x hx => ?_
        rcases (mem_commit hs hg hl).1 hx with ⟨c, hcm, rfl⟩ | ⟨h4, _⟩
        · exact h1 c hcm
        · exact h3 x h4
    rw [see, see, h0, hc, h2]
end
end Go.Proofs.YtpniccllpfonfaaGreatDoor.St
namespace Go.Proofs.YtpniccllpfonfaaGreatDoor.St
open Go Go.RowKit Go.Proofs.YtpniccllpfonfaaGreatDoorW.PrintWords Go.Proofs.YtpniccllpfonfaaGreatDoor.Wd
/-- Does a key begin so? -/
def begins (p : ByteArray) (key : ByteArray) : Bool := Lib.hasPrefix key.data.toList p.data.toList
def scanL (l : List Pr) (p : ByteArray) : List Pr := (l.drop (place (keys l) p)).takeWhile (fun x => begins p x.key)
theorem flatP_snoc (l : List Pr) (x : Pr) : flatP (l ++ [x]) = flatP l ++ cellsP x := by simp [flatP, flat]
theorem takeWhile_take {α : Type} (f : α → Bool) : ∀ (l : List α) (k : Nat), (∀ i (h : i < l.length), i < k → f l[i] = true) → (∀ h : k < l.length, f l[k] = false) → l.takeWhile f = l.take k
  | [], k, _, _ => by simp
  | x :: l, 0, _, h => by
    have := h (by simp)
    simp only [List.getElem_cons_zero] at this
    simp [this]
  | x :: l, k + 1, h1, h2 => by
    have h0 := h1 0 (by simp) (by omega)
    simp only [List.getElem_cons_zero] at h0
    rw [List.takeWhile_cons, if_pos h0, List.take_succ_cons, takeWhile_take f l k (fun i hi hk => h1 (i + 1) (by simpa using hi) (by omega)) (fun hk => h2 (by simpa using hk))]
/-- While pairs are taken. -/
def RSk (B : Nat) (w : World) (m : List Pr) (p : ByteArray) (vo i : Value) (wr : World) : Prop :=
  ∃ k : Nat, k ≤ m.length ∧ i = .int .i64 (k : Int) ∧ wr.ownsRow B 96 2 vo k (flatP (m.take k)) ∧ (∀ i (h : i < m.length), i < k → begins p m[i].key = true) ∧ Below B w wr
section
variable {B : Nat} {w w' : World} {gs gw gd N Z h p q : Nat} {vl vr : Value} {l : List Pr}
set_option maxRecDepth 100000 in
set_option maxHeartbeats 8000000 in
theorem kscan_any (H : Kv B w gs gw gd N Z vl vr h p q l) (hl : l.length < 1000000) (key : ByteArray) : Calls Tryz.prog 29 #[.pointer (some ⟨gs, 0, none⟩), .string key] w fun e w' => ∃ v, e = .returned v ∧ w'.ownsRow w.heap.size 96 2 v (scanL l key).length (flatP (scanL l key)) ∧ Below w.heap.size w w' := by
  obtain ⟨a, c, rfl, hlc⟩ := sliceE_of H.row
  have c2 : w.cell? ⟨gs, 2, none⟩ = some (.slice a l.length c) := blk_cell H.blk 2
  have hplace : ∀ W, Below w.heap.size w W → Calls Tryz.prog 67 #[.slice a l.length c, .string key] W fun e w' => e = .returned (.int .i64 (place (keys l) key : Int)) ∧ w' = W := fun W hb => place_any (rowE_below H.row hb) H.srt hl key
  have hpl : place (keys l) key ≤ l.length := by have := place_le (keys l) key; rw [keys_len] at this; exact this
  obtain ⟨i0, hi0, hz0, hz1, hz2⟩ := info_parts infoP
  have hsc : scanL l key = (l.drop (place (keys l) key)).takeWhile (fun x => begins key x.key) := rfl
  obtain ⟨j, hj⟩ : ∃ j, j = place (keys l) key := ⟨_, rfl⟩
  rw [← hj] at hplace hpl hsc
  rw [hsc]
  clear hj hsc
  obtain ⟨m, hm⟩ : ∃ m, m = l.drop j := ⟨_, rfl⟩
  have hml : m.length = l.length - j := by rw [hm, List.length_drop]
  have hg9 : ∀ i (hi : i < m.length), ∃ g, a = some ⟨g, 0, none⟩ ∧ g < w.heap.size ∧ w.cell? ⟨g, (j + i) * 2, none⟩ = some (.string m[i].key) ∧ w.cell? ⟨g, (j + i) * 2 + 1, none⟩ = some (.string m[i].val) := fun i hi => by
    obtain ⟨g, cur, rfl, _, hg, _, hc⟩ := rowE_at H.row (by omega)
    have e : m[i] = l[j + i]'(by omega) := by simp only [hm, List.getElem_drop]
    rw [e]
    exact ⟨g, rfl, (Array.getElem?_eq_some_iff.1 hg).1, hc ((j + i) * 2) _ (by rw [← Nat.add_zero ((j + i) * 2), flatP, flat_get cellsP 2 cellsP_len l (j + i) 0 (by omega) (by decide)]; rfl), hc ((j + i) * 2 + 1) _ (by rw [flatP, flat_get cellsP 2 cellsP_len l (j + i) 1 (by omega) (by decide)]; rfl)⟩
  obtain ⟨A', hcut, hA'⟩ : ∃ A' : Option Addr, (∀ W : World, (Instr.slice 33 (.slice a l.length c) (some (.int .i64 (j : Int))) none none).run Tryz.prog W = .ok (.slice A' m.length (c - j)) W) ∧ ∀ i (hi : i < m.length), ∃ g, A' = some ⟨g, j * 2, none⟩ ∧ g < w.heap.size ∧ w.cell? ⟨g, j * 2 + i * 2, none⟩ = some (.string m[i].key) ∧ w.cell? ⟨g, j * 2 + i * 2 + 1, none⟩ = some (.string m[i].val) := by
    refine ⟨if c = j then a else a.map (·.add (j * 2)), fun W => ?_, fun i hi => ?_⟩
    · have := cut_from (P := Tryz.prog) 33 96 .i64 Tryz.underlying33 hi0 2 hz1 a l.length c (j : Int) (by omega) (by omega) W
      rw [Int.toNat_natCast] at this
      rw [this, hml]
    · obtain ⟨g, rfl, hg, h0, h1⟩ := hg9 i hi
      refine ⟨g, ?_, hg, by rw [← Nat.add_mul]; exact h0, by rw [← Nat.add_mul]; exact h1⟩
      rw [if_neg (by omega), Option.map_some, add_zero_at]
  have hmc : (m.length : Int) ≤ ((c - j : Nat) : Int) := by omega
  rw [← hm]
  have HML := Lib.hid hml
  clear hm hml hg9
  have HA := Lib.hid hA'
  clear hA'
  go_enter Tryz.func29, Tryz.ntmps29
  go_wp2_with (fail)
  go_quiet ((go_at_call 67; exact Calls.quiet_of_same (hplace _ (pw_below_drewN (Below.refl _ _) _))))
  go_wp2_with (fail)
  go_loopw [5, 20] (fun vo i wr => RSk w.heap.size w m key vo i wr) (fun _ i _ => m.length - (intOf i).toNat)
  case atStart => exact ⟨0, Nat.zero_le _, rfl, ⟨rfl, .inl ⟨rfl, rfl⟩⟩, fun i h hi => by omega, pw_below_drewN (Below.refl _ _) _⟩
  case round =>
    obtain ⟨k, hk, rfl, hown, hbg, hB⟩ := hrel
    have hsz := hB.size
    by_cases hlt : k < m.length
    · obtain ⟨g, rfl, hgl, x0, x1⟩ := HA.out k hlt
      have y0 : wr.cell? ⟨g, j * 2 + k * 2, none⟩ = some (.string m[k].key) := (hB.cell (p := ⟨g, j * 2 + k * 2, none⟩) hgl).trans x0
      have y1 : wr.cell? ⟨g, j * 2 + k * 2 + 1, none⟩ = some (.string m[k].val) := (hB.cell (p := ⟨g, j * 2 + k * 2 + 1, none⟩) hgl).trans x1
      have hne : g ≠ wr.heap.size := by omega
      have k0 : (0 : Int) ≤ (k : Int) := by omega
      have k1 : (k : Int) < (m.length : Int) := by omega
      obtain ⟨ao, co, rfl, _⟩ := sliceE_of hown
      have hml2 : m.length < 1000000 := by have := HML.out; omega
      have hsn : flatP (m.take (k + 1)) = flatP (m.take k) ++ [.string m[k].key, .string m[k].val] := by
        rw [List.take_add_one, List.getElem?_eq_getElem hlt]
        exact flatP_snoc _ _
      have HSN := Lib.hid hsn
      clear hsn x0 x1
      cases hp : begins key m[k].key with
      | true =>
        have hp2 : Lib.hasPrefix m[k].key.data.toList key.data.toList = true := hp
        have HP := Lib.hid hp
        clear hp
        go_wp2_with (first
          | (go_at_call 51; (with_reducible refine (Tryz.strings_HasPrefix _ _ _).mono ?_); rintro e w' ⟨rfl, rfl⟩)
          | (at_builtin; refine wpList_append_own_at _ rfl _ _ _ rfl w.heap.size 96 i0 _ 2 32 Tryz.underlying33 hi0 hz0 hz1 hz2 rfl (by omega) (.slice ao k co) k (flatP (m.take k)) rfl ((hown.alloc _).alloc _) ⟨wr.heap.size + 1, 0, none⟩ 1 1 [.string m[k].key, .string m[k].val] rfl rfl (World.news_of_block (cs := #[.string m[k].key, .string m[k].val]) (t := 96) (fr := (0, 0)) (two_new _ _ _)) (by simp [Value.oneCell']) (by unfold maxLen; omega) (by omega) (by simp; omega) ?_; intro v2 w2 hown2 hgrow2 _ hat2))
        go_roundw
        case rel =>
          refine ⟨k + 1, hlt, by simp, by rw [HSN.out]; exact hown2, fun i hi hik => ?_, ?_⟩
          · rcases Nat.lt_or_ge i k with h9 | h9
            · exact hbg i hi h9
            · obtain rfl : i = k := by omega
              exact HP.out
          · exact (below_alloc (below_alloc hB _) _).grown hgrow2 (by simp; omega) (fun b hb => (hown.lt b hb).1)
        case measure => simp [intOf]; omega
      | false =>
        have hp2 : Lib.hasPrefix m[k].key.data.toList key.data.toList = false := hp
        have htw := takeWhile_take (fun x => begins key x.key) m k hbg (fun h => hp)
        have HT := Lib.hid htw
        clear hp htw
        go_wp2_with (go_at_call 51; (with_reducible refine (Tryz.strings_HasPrefix _ _ _).mono ?_); rintro e w' ⟨rfl, rfl⟩)
        go_ret
        rw [HT.out]
        refine ⟨_, rfl, ?_, below_alloc hB _⟩
        rw [List.length_take, Nat.min_eq_left hk]
        exact hown.alloc _
    · obtain rfl : k = m.length := by omega
      have htw := takeWhile_take (fun x => begins key x.key) m m.length hbg (fun h => absurd h (Nat.lt_irrefl _))
      have HT := Lib.hid htw
      clear htw
      obtain ⟨ao, co, rfl, _⟩ := sliceE_of hown
      go_wp2_with (fail)
      go_ret
      rw [HT.out]
      refine ⟨_, rfl, ?_, hB⟩
      rw [List.take_length]
      rw [List.take_length] at hown
      exact hown
end
end Go.Proofs.YtpniccllpfonfaaGreatDoor.St
namespace Go.Proofs.YtpniccllpfonfaaGreatDoor.St
open Go Go.RowKit Go.Shelf Go.Proofs.YtpniccllpfonfaaGreatDoorW.PrintWords Go.Proofs.YtpniccllpfonfaaGreatDoor.Wd
/-- One change more: what was seen till then, and what the store has besides. -/
def stepT (p : ByteArray) (s : List Pr × List Pr) (c : Ch) : List Pr × List Pr :=
  if begins p c.key then
    (s.1 ++ s.2.takeWhile (fun x => decide (x.key.toList < c.key.toList)) ++ (if c.gone then [] else [⟨c.key, c.val⟩]),
      let r := s.2.dropWhile (fun x => decide (x.key.toList < c.key.toList))
      if (r.head?.map (·.key)) = some c.key then r.tail else r)
  else s
def scanT (l : List Pr) (cs : List Ch) (p : ByteArray) : List Pr :=
  let s := cs.foldl (stepT p) ([], scanL l p)
  s.1 ++ s.2
abbrev AllC := { c : Ch // fitsC c = 0 }
theorem allC_list (l : List Ch) (h : ∀ c ∈ l, fitsC c = 0) : ∃ lo : List AllC, lo.map (fun x => x.1) = l := by
  refine ⟨l.attach.map fun c => ⟨c.1, h c.1 c.2⟩, ?_⟩
  rw [List.map_map]
  exact List.attach_map_subtype_val l
/-- The store's pairs, laid into a variable. -/
def ROld (W1 : World) (m : List Pr) (s5 : Value) (wx : World) : Prop :=
  ∃ bo a3 c3, s5 = .pointer (some ⟨bo, 0, none⟩) ∧ wx.heap[bo]? = some (.cells #[.slice a3 m.length c3] 33 (0, 0)) ∧ wx.ownsRow W1.heap.size 96 2 (.slice a3 m.length c3) m.length (flatP m) ∧ Below W1.heap.size W1 wx ∧ W1.heap.size ≤ bo
theorem old_new {W1 W w3 : World} {m : List Pr} {a3 : Option Addr} {c3 : Nat} (hb : Below W1.heap.size W1 W) (b3 : Below W.heap.size W w3) (r3 : w3.ownsRow W.heap.size 96 2 (.slice a3 m.length c3) m.length (flatP m)) : ROld W1 m (.pointer (some ⟨w3.heap.size, 0, none⟩)) (w3.alloc (.cells #[.slice a3 m.length c3] 33 (0, 0))) := by
  have hs := hb.size
  have b : Below W1.heap.size W1 w3 := hb.trans (b3.mono hs)
  exact ⟨_, a3, c3, rfl, heap_alloc_new w3 _, (rowE_base r3 hs).alloc _, below_alloc b _, b.size⟩
theorem old_set {W1 W w3 : World} {m : List Pr} {a3 : Option Addr} {c3 : Nat} {v : Value} (hb : Below W1.heap.size W1 W) (hW : W.heap.size = W1.heap.size + 1) (b3 : Below W.heap.size W w3) (r3 : w3.ownsRow W.heap.size 96 2 (.slice a3 m.length c3) m.length (flatP m)) (n9 : w3.heap[W1.heap.size]? = some (.cells #[v] 33 (0, 0))) : ROld W1 m (.pointer (some ⟨W1.heap.size, 0, none⟩)) (w3.setCell ⟨W1.heap.size, 0, none⟩ (.slice a3 m.length c3)) := by
  have hs := hb.size
  have b : Below W1.heap.size W1 w3 := hb.trans (b3.mono hs)
  have hn := blk_set n9 0 (.slice a3 m.length c3)
  refine ⟨_, a3, c3, rfl, by simpa using hn, ?_, b.setCell (p := ⟨W1.heap.size, 0, none⟩) (Nat.le_refl _) _, Nat.le_refl _⟩
  exact rowE_of (rowE_base r3 hs) fun k hk => Below.heap_setCell w3 ⟨W1.heap.size, 0, none⟩ _ k (fun e => by
    have h1 := (r3.lt k hk).1
    have h2 : k = W1.heap.size := e
    omega)
/-- The rest of the store's pairs. -/
def RestAt (ao : Option Addr) (n o : Nat) (A : Option Addr) (c : Nat) : Prop := n - o ≤ c ∧ (o < n → ∃ g, ao = some ⟨g, 0, none⟩ ∧ A = some ⟨g, o * 2, none⟩)
theorem rest_cut {ao A : Option Addr} {n o c : Nat} (h : RestAt ao n o A c) (ho : o < n) : ∃ A', (∀ W : World, (Instr.slice 33 (.slice A (n - o) c) (some (.int .i64 1)) none none).run Tryz.prog W = .ok (.slice A' (n - (o + 1)) (c - 1)) W) ∧ RestAt ao n (o + 1) A' (c - 1) := by
  obtain ⟨i0, hi0, hz0, hz1, hz2⟩ := info_parts infoP
  obtain ⟨hc, hA⟩ := h
  obtain ⟨g, rfl, rfl⟩ := hA ho
  refine ⟨if c = 1 then some ⟨g, o * 2, none⟩ else some ⟨g, (o + 1) * 2, none⟩, fun W => ?_, by omega, fun h1 => ⟨g, rfl, by rw [if_neg (by omega)]⟩⟩
  have := cut_from (P := Tryz.prog) 33 96 .i64 Tryz.underlying33 hi0 2 hz1 (some ⟨g, o * 2, none⟩) (n - o) c 1 (by omega) (by omega) W
  rw [this, show (1 : Int).toNat = 1 from rfl, show n - o - 1 = n - (o + 1) by omega, Option.map_some, Wd.add_at, show o * 2 + 1 * 2 = (o + 1) * 2 by omega]
/-- While a transaction's pairs are gathered: a so far, the store's from o on still to come. -/
structure TS (w : World) (B1 bo ba Bn : Nat) (ao : Option Addr) (co : Nat) (m : List Pr) (key : ByteArray) (a : List Pr) (o : Nat) (A : Option Addr) (c : Nat) (va : Value) (W : World) : Prop where
  rest : RestAt ao m.length o A c
  le : o ≤ m.length
  bO : W.heap[bo]? = some (.cells #[.slice A (m.length - o) c] 33 (0, 0))
  bA : W.heap[ba]? = some (.cells #[va] 33 (0, 0))
  row : W.ownsRow Bn 96 2 va a.length (flatP a)
  old : W.ownsRow B1 96 2 (.slice ao m.length co) m.length (flatP m)
  pre : W.heap[w.heap.size]? = some (.cells #[.string key] 9 (0, 0))
  low : Below w.heap.size w W
section
variable {w W W' : World} {B1 bo ba Bn co o c : Nat} {ao A : Option Addr} {m a : List Pr} {key : ByteArray} {va : Value}
theorem rowE_keep {B e z n : Nat} {v : Value} {xs : List Value} (h : W.ownsRow B e z v n xs) (hk : ∀ (k : Nat) (cs : Array Value) (t : Nat), W.heap[k]? = some (.cells cs t (0, 0)) → W'.heap[k]? = some (.cells cs t (0, 0))) : W'.ownsRow B e z v n xs := by
  refine ⟨h.1, ?_⟩
  rcases h.2 with h2 | ⟨g, cap, cur, h2, h3, h4, h5⟩
  · exact .inl h2
  · exact .inr ⟨g, cap, cur, h2, h3, hk _ _ _ h4, h5⟩
theorem TS.keep (H : TS w B1 bo ba Bn ao co m key a o A c va W) (hk : ∀ (k : Nat) (cs : Array Value) (t : Nat), W.heap[k]? = some (.cells cs t (0, 0)) → W'.heap[k]? = some (.cells cs t (0, 0))) (hl : Below w.heap.size w W') : TS w B1 bo ba Bn ao co m key a o A c va W' :=
  ⟨H.rest, H.le, hk _ _ _ H.bO, hk _ _ _ H.bA, rowE_keep H.row hk, rowE_keep H.old hk, hk _ _ _ H.pre, hl⟩
theorem TS.ofBelow (H : TS w B1 bo ba Bn ao co m key a o A c va W) (hb : Below W.heap.size W W') : TS w B1 bo ba Bn ao co m key a o A c va W' :=
  H.keep (fun k _ _ h => (hb.block k (Array.getElem?_eq_some_iff.1 h).1).trans h) (H.low.trans (hb.mono H.low.size))
theorem TS.ofGrown {row : Option Nat} (H : TS w B1 bo ba Bn ao co m key a o A c va W) (hg : W.grownBy W' row) (hr : ∀ r, row = some r → w.heap.size ≤ r ∧ ∃ o : Obj, W.heap[r]? = some o ∧ o.isCells = false) : TS w B1 bo ba Bn ao co m key a o A c va W' :=
  H.keep (fun k cs t h => (hg.block k (Array.getElem?_eq_some_iff.1 h).1 (fun e => by
    obtain ⟨_, ob, ho, hc⟩ := hr k e.symm
    rw [h] at ho
    obtain rfl := Option.some.inj ho
    cases hc)).trans h) (H.low.grown hg H.low.size (fun k e => (hr k e).1))
theorem TS.row_ne (H : TS w B1 bo ba Bn ao co m key a o A c va W) {k t : Nat} {cs : Array Value} (h : W.heap[k]? = some (.cells cs t (0, 0))) (ht : t ≠ 96) : some k ≠ va.ownBlock := fun e => rowE_ne H.row h (fun e => ht e.symm) e.symm
theorem TS.old_lt (H : TS w B1 bo ba Bn ao co m key a o A c va W) (hB : ∀ k, (Value.slice ao m.length co).ownBlock = some k → k < Bn) : ∀ k, (Value.slice ao m.length co).ownBlock = some k → some k ≠ va.ownBlock := fun k hk e => by
  have h1 := hB k hk
  have h2 := (H.row.lt k e.symm).1
  omega
theorem keeps_row {n : Nat} {xs : List Value} {e : Nat} (h : W.ownsRow Bn e 2 va n xs) (hg : W.grownBy W' va.ownBlock) : KeepsOthers W W' :=
  KeepsOthers.of_grownBy hg (fun j _ hj ho => row_cells_of h j hj.symm.symm ho)
theorem keeps_below (hb : Below W.heap.size W W') : KeepsOthers W W' := ⟨hb.size, fun k _ h _ => (hb.block k (Array.getElem?_eq_some_iff.1 h).1).trans h⟩
/-- Something appended to what is gathered, and its variable written. -/
theorem TS.appended {Wt w2 : World} {v2 : Value} (x : Pr) (H : TS w B1 bo ba Bn ao co m key a o A c va W) (hne : bo ≠ ba) (hsb : w.heap.size < ba) (hwB : w.heap.size ≤ Bn) (hB : ∀ k, (Value.slice ao m.length co).ownBlock = some k → k < Bn) (ht : Below W.heap.size W Wt) (hg : Wt.grownBy w2 va.ownBlock) (hown : w2.ownsRow Bn 96 2 v2 (a.length + 1) (flatP a ++ cellsP x)) :
    TS w B1 bo ba Bn ao co m key (a ++ [x]) o A c v2 (w2.setCell ⟨ba, 0, none⟩ v2) ∧ KeepsOthers W (w2.setCell ⟨ba, 0, none⟩ v2) ∧ Below w.heap.size W (w2.setCell ⟨ba, 0, none⟩ v2) := by
  have Ht := H.ofBelow ht
  have blk : ∀ (k : Nat) (cs : Array Value) (t : Nat), Wt.heap[k]? = some (.cells cs t (0, 0)) → some k ≠ va.ownBlock → w2.heap[k]? = some (.cells cs t (0, 0)) := fun k cs t h hn => (hg.block k (Array.getElem?_eq_some_iff.1 h).1 hn).trans h
  have set : ∀ (k : Nat) (cs : Array Value) (t : Nat), w2.heap[k]? = some (.cells cs t (0, 0)) → k ≠ ba → (w2.setCell ⟨ba, 0, none⟩ v2).heap[k]? = some (.cells cs t (0, 0)) := fun k cs t h hn => (Below.heap_setCell w2 ⟨ba, 0, none⟩ _ k hn).trans h
  have hA2 := blk _ _ _ Ht.bA (Ht.row_ne Ht.bA (by decide))
  have hsz := H.low.size
  have hrow : ∀ k, va.ownBlock = some k → w.heap.size ≤ k := fun k hk => Nat.le_trans hwB (H.row.lt k hk).1
  have hbl : Below w.heap.size W (w2.setCell ⟨ba, 0, none⟩ v2) := ((ht.mono hsz).grown hg (Nat.le_trans hsz ht.size) hrow).setCell (p := ⟨ba, 0, none⟩) (by show w.heap.size ≤ ba; omega) _
  refine ⟨⟨H.rest, H.le, set _ _ _ (blk _ _ _ Ht.bO (Ht.row_ne Ht.bO (by decide))) hne, ?_, ?_, ?_, set _ _ _ (blk _ _ _ Ht.pre (Ht.row_ne Ht.pre (by decide))) (by omega), H.low.trans hbl⟩, ?_, hbl⟩
  · have := blk_set hA2 0 v2
    simpa using this
  · rw [List.length_append, flatP_snoc]
    exact rowE_of hown fun k hk => Below.heap_setCell w2 ⟨ba, 0, none⟩ _ k (fun e => rowE_ne hown hA2 (by decide) (by rw [← show k = ba from e]; exact hk))
  · refine rowE_of Ht.old fun k hk => (Below.heap_setCell w2 ⟨ba, 0, none⟩ _ k (fun e => ?_)).trans (hg.block k (Ht.old.lt k hk).2 (Ht.old_lt hB k hk))
    exact rowE_ne Ht.old Ht.bA (by decide) (by rw [← show k = ba from e]; exact hk)
  · exact ((keeps_below ht).trans (keeps_row Ht.row hg)).trans (KeepsOthers.setCell _ _ _)
/-- The store's next pair left behind. -/
theorem TS.moved {A' : Option Addr} {c' : Nat} (H : TS w B1 bo ba Bn ao co m key a o A c va W) (hne : bo ≠ ba) (hsb : w.heap.size < bo) (ho : o < m.length) (R : RestAt ao m.length (o + 1) A' c') :
    TS w B1 bo ba Bn ao co m key a (o + 1) A' c' va (W.setCell ⟨bo, 0, none⟩ (.slice A' (m.length - (o + 1)) c')) ∧ KeepsOthers W (W.setCell ⟨bo, 0, none⟩ (.slice A' (m.length - (o + 1)) c')) ∧ Below w.heap.size W (W.setCell ⟨bo, 0, none⟩ (.slice A' (m.length - (o + 1)) c')) := by
  obtain ⟨u, hu⟩ : ∃ u, u = Value.slice A' (m.length - (o + 1)) c' := ⟨_, rfl⟩
  rw [← hu]
  have set : ∀ (k : Nat) (cs : Array Value) (t : Nat), W.heap[k]? = some (.cells cs t (0, 0)) → k ≠ bo → (W.setCell ⟨bo, 0, none⟩ u).heap[k]? = some (.cells cs t (0, 0)) := fun k cs t h hn => (Below.heap_setCell W ⟨bo, 0, none⟩ _ k hn).trans h
  have hbl : Below w.heap.size W (W.setCell ⟨bo, 0, none⟩ u) := (Below.refl w.heap.size W).setCell (p := ⟨bo, 0, none⟩) (by show w.heap.size ≤ bo; omega) _
  have hbo : (W.setCell ⟨bo, 0, none⟩ u).heap[bo]? = some (.cells #[u] 33 (0, 0)) := by
    have := blk_set H.bO 0 u
    simpa using this
  refine ⟨⟨R, ho, ?_, set _ _ _ H.bA (fun e => hne e.symm), ?_, ?_, set _ _ _ H.pre (by omega), H.low.trans hbl⟩, KeepsOthers.setCell _ _ _, hbl⟩
  · rw [hbo, hu]
  · exact rowE_of H.row fun k hk => Below.heap_setCell W ⟨bo, 0, none⟩ _ k (fun e => rowE_ne H.row H.bO (by decide) (by rw [← show k = bo from e]; exact hk))
  · exact rowE_of H.old fun k hk => Below.heap_setCell W ⟨bo, 0, none⟩ _ k (fun e => rowE_ne H.old H.bO (by decide) (by rw [← show k = bo from e]; exact hk))
end
end Go.Proofs.YtpniccllpfonfaaGreatDoor.St
