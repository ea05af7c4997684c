/- Escape and Unescape, plain. -/
import Derived.Test.YtcgfaagadejpmaaGreatDoorQ3
import Derived.Test.YtcgfaagadejpmaaGreatDoorQ5
import Derived.Test.YtcgfaagadejpmaaGreatDoorQ6
namespace Go.Proofs.YtcgfaagadejpmaaGreatDoor.Q
open Go.RowKit Go.Proofs.YtcgfaagadejpmaaGreatDoorW.PrintWords Go.Proofs.YtcgfaagadejpmaaGreatDoorW.PrintLast Go.Proofs.YtcgfaagadejpmaaGreatDoorW.PrintMore

theorem up_of {α : Type} {f : Nat → Option α} (hm : ∀ k, LeO (f k) (f (k + 1))) {K : Nat} {v : α} (h : f K = some v) : ∀ k, K ≤ k → f k = some v := by
  intro k hk
  induction hk with
  | refl => exact h
  | step _ ih => exact hm _ _ ih
theorem bt_list (l : List UInt8) (i : Nat) (h : i < l.length) : bt ⟨l.toArray⟩ (i : Int) = ((l[i]'h).toNat : Int) := by
  unfold bt
  have h2 : (i : Int).toNat < (⟨l.toArray⟩ : ByteArray).size := by simpa [ByteArray.size] using h
  rw [dif_pos h2]
  rfl
theorem size_list (l : List UInt8) : (⟨l.toArray⟩ : ByteArray).size = l.length := by simp [ByteArray.size]
theorem extract_list (l : List UInt8) (i : Nat) (_h : i ≤ l.length) : (⟨l.toArray⟩ : ByteArray).extract i (⟨l.toArray⟩ : ByteArray).size = ⟨(l.drop i).toArray⟩ := by
  apply ByteArray.ext
  apply Array.toList_inj.1
  rw [size_list]
  simp [ByteArray.data_extract, List.extract_eq_take_drop] 
  rw [List.take_of_length_le (by simp)]
theorem list_eq (x : ByteArray) : ∃ l : List UInt8, x = ⟨l.toArray⟩ := ⟨x.data.toList, by simp⟩
theorem toList_mk (l : List UInt8) : (⟨l.toArray⟩ : ByteArray).toList = l := by rw [Lib.toList_data]

/-- The worth of a digit of sixteen. -/
def hexv (c : UInt8) : Option Nat := if 48 ≤ c.toNat ∧ c.toNat ≤ 57 then some (c.toNat - 48) else if 97 ≤ c.toNat ∧ c.toNat ≤ 102 then some (c.toNat - 87) else none
/-- What stands behind a backslash. -/
def sgn : List UInt8 → Option (UInt8 × Nat)
  | [] => none
  | c :: r => if c.toNat = 114 then some (13, 1) else if c.toNat = 110 then some (10, 1) else if c.toNat = 92 then some (92, 1)
    else if c.toNat = 120 then (match r with
      | a :: b :: _ => (hexv a).bind fun x => (hexv b).map fun y => ((16 * x + y).toUInt8, 3)
      | _ => none)
    else none
theorem sgn_cons (c : UInt8) (r : List UInt8) : sgn (c :: r) = if c.toNat = 114 then some (13, 1) else if c.toNat = 110 then some (10, 1) else if c.toNat = 92 then some (92, 1)
    else if c.toNat = 120 then (match r with
      | a :: b :: _ => (hexv a).bind fun x => (hexv b).map fun y => ((16 * x + y).toUInt8, 3)
      | _ => none)
    else none := rfl
theorem hex_at : ∀ n < 256, Lib.indexByte [48, 49, 50, 51, 52, 53, 54, 55, 56, 57, 97, 98, 99, 100, 101, 102] (n : Nat).toUInt8 = (Option.map (fun x : Nat => (x : Int)) (hexv (n : Nat).toUInt8)).getD (-1) := by decide +kernel
theorem hexv_lt {c : UInt8} {x : Nat} (h : hexv c = some x) : x < 16 := by
  unfold hexv at h
  split at h
  · simp at h; omega
  · split at h
    · simp at h; omega
    · simp at h
theorem or16 : ∀ a < 16, ∀ b < 16, (Go.bits .or .i64 (wrap64 (((a : Nat) : Int) * 16)) ((b : Nat) : Int)) % 256 = ((16 * a + b : Nat) : Int) := by decide +kernel
theorem index_hex (c : UInt8) : strings_IndexByte.f (⟨#[48, 49, 50, 51, 52, 53, 54, 55, 56, 57, 97, 98, 99, 100, 101, 102]⟩ : ByteArray) (c.toNat : Int) = some ((Option.map (fun x : Nat => (x : Int)) (hexv c)).getD (-1)) := by
  have h := hex_at c.toNat c.toNat_lt
  unfold strings_IndexByte.f
  simp only [Int.toNat_natCast]
  have e : c.toNat.toUInt8 = c := by simp
  rw [e] at h ⊢
  exact congrArg some h
theorem sign_eq (l : List UInt8) : script_sign.f ⟨l.toArray⟩ = some (match sgn l with | none => ((0 : Int), (0 : Int)) | some p => ((p.1.toNat : Int), (p.2 : Int))) := by
  unfold script_sign.f
  rw [toList_mk, size_list]
  cases l with
  | nil => rfl
  | cons c r =>
    have h0 := bt_list (c :: r) 0 (by simp)
    rw [if_neg (by simp), if_pos (by simp)]
    rw [show bt ⟨(c :: r).toArray⟩ 0 = (c.toNat : Int) from h0]
    rw [sgn_cons]
    by_cases h1 : c.toNat = 114
    · rw [if_pos (by omega), if_pos h1]; rfl
    rw [if_neg (by omega), if_neg h1]
    by_cases h2 : c.toNat = 110
    · rw [if_pos (by omega), if_pos h2]; rfl
    rw [if_neg (by omega), if_neg h2]
    by_cases h3 : c.toNat = 92
    · rw [if_pos (by omega), if_pos h3]; rfl
    rw [if_neg (by omega), if_neg h3]
    by_cases h4 : c.toNat = 120
    · rw [if_pos (by omega), if_pos h4]
      match r with
      | [] => rw [if_pos (by simp)]
      | [a] => rw [if_pos (by simp)]
      | a :: b :: r =>
        rw [if_neg (by simp; omega), if_pos (by simp; omega)]
        have e1 := bt_list (c :: a :: b :: r) 1 (by simp)
        have e2 := bt_list (c :: a :: b :: r) 2 (by simp)
        rw [show bt ⟨(c :: a :: b :: r).toArray⟩ 1 = (a.toNat : Int) from e1, index_hex]
        dsimp only [Option.bind_some]
        rw [if_pos (by simp; omega), show bt ⟨(c :: a :: b :: r).toArray⟩ 2 = (b.toNat : Int) from e2, index_hex]
        dsimp only [Option.bind_some]
        cases ha : hexv a with
        | none => simp
        | some x =>
          cases hb : hexv b with
          | none => simp
          | some y =>
            have hx := hexv_lt ha
            have hy := hexv_lt hb
            have ho := or16 x hx y hy
            simp only [Option.map_some, Option.getD_some, Option.bind_some]
            rw [ho]
            clear ho h0 e1 e2
            rw [if_neg (by omega), if_neg (by omega)]
            have e : (16 * x + y).toUInt8.toNat = 16 * x + y := by simp; omega
            rw [e]
            rfl
    · rw [if_neg (by omega), if_neg h4]
theorem sgn_len {l : List UInt8} {v : UInt8} {n : Nat} (h : sgn l = some (v, n)) : 0 < n ∧ n ≤ l.length := by
  unfold sgn at h
  split at h
  · cases h
  · repeat' split at h
    all_goals first | (simp at h; obtain ⟨_, rfl⟩ := h; simp; done) | (cases h; done) | skip
    obtain ⟨x, _, h⟩ := Option.bind_eq_some_iff.mp h
    obtain ⟨y, _, h⟩ := Option.map_eq_some_iff.mp h
    simp at h
    obtain ⟨_, rfl⟩ := h
    simp
/-- The bytes of an escaped text. -/
def unesc : Nat → List UInt8 → Option (List UInt8)
  | _, [] => some []
  | 0, _ => none
  | k + 1, c :: r => if c.toNat = 92 then (sgn r).bind fun p => (unesc k (r.drop p.2)).map (p.1 :: ·) else if c.toNat < 32 ∨ 126 < c.toNat then none else (unesc k r).map (c :: ·)
theorem strOfNums_map (l : List UInt8) : strOfNums (l.map fun c => (c.toNat : Int)) = ⟨l.toArray⟩ := by
  unfold strOfNums
  congr 1
  rw [List.map_map]
  have : ((fun n : Int => UInt8.ofNat n.toNat) ∘ fun c : UInt8 => (c.toNat : Int)) = id := by funext c; simp
  rw [this, List.map_id]
theorem unescape_eq : ∀ (n : Nat) (l : List UInt8) (k : Nat) (acc : List Int), l.length ≤ n → n < k → acc.length + l.length < 140737488355328 →
    script_Unescape.l0 k ⟨l.toArray⟩ acc = some (match unesc n l with | none => ((⟨#[]⟩ : ByteArray), false) | some m => (strOfNums (acc ++ m.map fun c => (c.toNat : Int)), true))
  | n, [], k, acc, hn, hk, ha => by
    obtain ⟨k, rfl⟩ : ∃ j, k = j + 1 := ⟨k - 1, by omega⟩
    unfold script_Unescape.l0
    rw [toList_mk, if_pos rfl]
    unfold unesc
    simp
  | 0, c :: r, k, acc, hn, hk, ha => by simp at hn
  | n + 1, c :: r, k, acc, hn, hk, ha => by
    obtain ⟨k, rfl⟩ : ∃ j, k = j + 1 := ⟨k - 1, by omega⟩
    unfold script_Unescape.l0
    have h0 := bt_list (c :: r) 0 (by simp)
    have hx : (⟨(c :: r).toArray⟩ : ByteArray).extract 1 (⟨(c :: r).toArray⟩ : ByteArray).size = ⟨r.toArray⟩ := extract_list (c :: r) 1 (by simp)
    rw [toList_mk, if_neg (by simp), if_pos (by rw [size_list]; simp), if_pos (by rw [size_list]; simp; omega), show bt ⟨(c :: r).toArray⟩ 0 = (c.toNat : Int) from h0, hx]
    simp only [List.length_cons] at hn ha
    unfold unesc
    by_cases h1 : c.toNat = 92
    · rw [if_pos (by omega), if_pos h1, sign_eq]
      dsimp only [Option.bind_some]
      cases hs : sgn r with
      | none => simp
      | some p =>
        obtain ⟨v, m⟩ := p
        obtain ⟨hm0, hm1⟩ := sgn_len hs
        dsimp only [Option.bind_some]
        rw [if_neg (by omega), if_pos (by omega), if_pos (by omega), if_pos (by rw [size_list]; omega), Int.toNat_natCast, extract_list r m hm1]
        rw [unescape_eq n (r.drop m) k (acc ++ [(v.toNat : Int)]) (by simp; omega) (by omega) (by simp; omega)]
        cases unesc n (r.drop m) with
        | none => simp
        | some m => simp
    · rw [if_neg (by omega), if_neg h1]
      by_cases h2 : c.toNat < 32 ∨ 126 < c.toNat
      · rw [if_pos h2]
        by_cases h3 : c.toNat < 32
        · rw [if_pos (by omega)]
        · rw [if_neg (by omega), if_pos (by omega)]
      · rw [if_neg h2, if_neg (by omega), if_neg (by omega), if_pos (by omega)]
        rw [unescape_eq n r k (acc ++ [(c.toNat : Int)]) (by omega) (by omega) (by simp; omega)]
        cases unesc n r with
        | none => simp
        | some m => simp
theorem unesc_up : ∀ (n : Nat) (l : List UInt8), l.length ≤ n → unesc n l = unesc l.length l
  | n, [], _ => by cases n <;> simp [unesc]
  | 0, c :: r, h => by simp at h
  | n + 1, c :: r, h => by
    simp only [List.length_cons] at h ⊢
    unfold unesc
    split
    · cases hs : sgn r with
      | none => rfl
      | some p =>
        obtain ⟨v, m⟩ := p
        obtain ⟨h0, h1⟩ := sgn_len hs
        dsimp only [Option.bind_some]
        rw [unesc_up n (r.drop m) (by simp; omega), unesc_up r.length (r.drop m) (by simp)]
    · rw [unesc_up n r (by omega)]
def un (l : List UInt8) : Option (List UInt8) := unesc l.length l
theorem un_cons (c : UInt8) (r : List UInt8) : un (c :: r) = if c.toNat = 92 then (sgn r).bind fun p => (un (r.drop p.2)).map (p.1 :: ·) else if c.toNat < 32 ∨ 126 < c.toNat then none else (un r).map (c :: ·) := by
  unfold un
  rw [List.length_cons, unesc]
  split
  · cases hs : sgn r with
    | none => rfl
    | some p =>
      dsimp only [Option.bind_some]
      rw [unesc_up r.length _ (by simp)]
  · rfl
theorem hexv_hx : ∀ n < 16, hexv (script_Escape.hx n) = some n := by decide +kernel
/-- What is escaped is told again. -/
theorem un_esc (c : UInt8) (r : List UInt8) : un (script_Escape.esc c ++ r) = (un r).map (c :: ·) := by
  unfold script_Escape.esc
  split
  · rename_i h
    have e : c = 13 := UInt8.toNat_inj.1 h
    subst e
    simp [un_cons, sgn]
  split
  · rename_i h
    have e : c = 10 := UInt8.toNat_inj.1 h
    subst e
    simp [un_cons, sgn]
  split
  · rename_i h
    have e : c = 92 := UInt8.toNat_inj.1 h
    subst e
    simp [un_cons, sgn]
  split
  · have h1 := hexv_hx (c.toNat / 16) (by have := c.toNat_lt; omega)
    have h2 := hexv_hx (c.toNat % 16) (by omega)
    have e : 16 * (c.toNat / 16) + c.toNat % 16 = c.toNat := by omega
    have e2 : (16 * (c.toNat / 16) + c.toNat % 16).toUInt8 = c := by rw [e]; simp
    show un (92 :: 120 :: script_Escape.hx (c.toNat / 16) :: script_Escape.hx (c.toNat % 16) :: r) = _
    rw [un_cons, if_pos (by decide), sgn_cons, if_neg (by decide), if_neg (by decide), if_neg (by decide), if_pos (by decide)]
    dsimp only
    rw [h1, h2]
    simp only [Option.bind_some, Option.map_some, e2, List.drop_succ_cons, List.drop_zero]
  · rename_i h1 h2 h3 h4
    rw [List.singleton_append, un_cons, if_neg h3, if_neg h4]
theorem un_flat : ∀ l : List UInt8, un (l.flatMap script_Escape.esc) = some l
  | [] => rfl
  | c :: l => by rw [List.flatMap_cons, un_esc, un_flat l]; rfl
theorem hx_range : ∀ n < 16, 48 ≤ (script_Escape.hx n).toNat ∧ (script_Escape.hx n).toNat ≤ 102 := by decide +kernel
theorem esc_range (c : UInt8) : ∀ b ∈ script_Escape.esc c, 32 ≤ b.toNat ∧ b.toNat ≤ 126 := by
  unfold script_Escape.esc
  have h1 := hx_range (c.toNat / 16) (by have := c.toNat_lt; omega)
  have h2 := hx_range (c.toNat % 16) (by omega)
  split
  · intro b hb; simp at hb; rcases hb with rfl | rfl <;> decide
  split
  · intro b hb; simp at hb; rcases hb with rfl | rfl <;> decide
  split
  · intro b hb; simp at hb; subst hb; decide
  split
  · intro b hb
    simp at hb
    rcases hb with rfl | rfl | rfl | rfl
    · decide
    · decide
    · omega
    · omega
  · intro b hb; simp at hb; subst hb; omega
theorem flat_range (l : List UInt8) : ∀ b ∈ l.flatMap script_Escape.esc, 32 ≤ b.toNat ∧ b.toNat ≤ 126 := fun b hb => by
  obtain ⟨c, _, h⟩ := List.mem_flatMap.1 hb
  exact esc_range c b h
theorem flat_len : ∀ l : List UInt8, (l.flatMap script_Escape.esc).length ≤ 4 * l.length
  | [] => by simp
  | c :: l => by
    have := flat_len l
    have := script_Escape.esc_le c
    simp only [List.flatMap_cons, List.length_append, List.length_cons]
    omega
theorem escape_eq (l : List UInt8) (h : l.length ≤ 17592186044416) : script_Escape.f ⟨l.toArray⟩ = some ⟨(l.flatMap script_Escape.esc).toArray⟩ := by
  unfold script_Escape.f
  rw [size_list, if_pos h]
  rfl
theorem unescape_f (l : List UInt8) (k : Nat) (hk : l.length < k) (h : l.length < 140737488355328) : script_Unescape.f k ⟨l.toArray⟩ = some (match un l with | none => ((⟨#[]⟩ : ByteArray), false) | some m => (⟨m.toArray⟩, true)) := by
  unfold script_Unescape.f
  rw [unescape_eq l.length l k [] (Nat.le_refl _) hk (by simpa using h)]
  unfold un
  cases unesc l.length l with
  | none => rfl
  | some m => simp only [List.nil_append, strOfNums_map]
theorem un_len : ∀ (n : Nat) (l m : List UInt8), l.length ≤ n → unesc n l = some m → m.length ≤ l.length
  | n, [], m, _, h => by
    cases n <;> (simp [unesc] at h; subst h; simp)
  | 0, c :: r, m, h, _ => by simp at h
  | n + 1, c :: r, m, hl, h => by
    simp only [List.length_cons] at hl ⊢
    unfold unesc at h
    split at h
    · obtain ⟨p, hp, h⟩ := Option.bind_eq_some_iff.mp h
      obtain ⟨m', hm, rfl⟩ := Option.map_eq_some_iff.mp h
      obtain ⟨v, j⟩ := p
      have := sgn_len hp
      have := un_len n (r.drop j) m' (by simp; omega) hm
      simp at this ⊢
      omega
    · split at h
      · cases h
      · obtain ⟨m', hm, rfl⟩ := Option.map_eq_some_iff.mp h
        have := un_len n r m' (by omega) hm
        simp; omega
end Go.Proofs.YtcgfaagadejpmaaGreatDoor.Q
