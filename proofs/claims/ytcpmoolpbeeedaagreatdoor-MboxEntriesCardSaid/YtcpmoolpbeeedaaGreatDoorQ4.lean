-- Written by a program of this session (wip/myprint) out of the translation, for YtcpmoolpbeeedaaGreatDoor.
import Derived.Test.YtcpmoolpbeeedaaGreatDoorQ0
namespace Go.Proofs.YtcpmoolpbeeedaaGreatDoor.Q
open Go.RowKit Go.Proofs.YtcpmoolpbeeedaaGreatDoorW.PrintWords Go.Proofs.YtcpmoolpbeeedaaGreatDoorW.PrintLast Go.Proofs.YtcpmoolpbeeedaaGreatDoorW.PrintMore Go.Proofs.YtcpmoolpbeeedaaGreatDoorW.PrintSq
attribute [local go_sem] max2_int min2_int max_two min_two max_three min_three max_four min_four   -- for this text's walks alone
set_option linter.unusedVariables false
set_option linter.unusedSimpArgs false

/-! ### stringslite_HasPrefix: function 76 -/
def stringslite_HasPrefix.f (a0 : ByteArray) (a1 : ByteArray) : Option (Bool) := if (a0.size : Int) ≥ (a1.size : Int) then (if 0 ≤ (a1.size : Int) then (if (a1.size : Int) ≤ (a0.size : Int) then (some ((a0.extract 0 ((a1.size : Int) : Int).toNat).toList == a1.toList)) else (none)) else (none)) else (some false)
set_option maxHeartbeats 8000000 in
set_option maxRecDepth 100000 in
theorem stringslite_HasPrefix.calls (a0 : ByteArray) (a1 : ByteArray) (r : Bool) (w : World) (h : stringslite_HasPrefix.f a0 a1 = some r) :
    Calls Tryz.prog 76 #[.string a0, .string a1] w fun e w' => e = .returned (.bool r) ∧ Drawn0 w w' := by
 unfold stringslite_HasPrefix.f at h
 have H := h
 clear h
 by_cases c3 : (a0.size : Int) ≥ (a1.size : Int)
 ·rw [if_pos c3] at H
  have c3b0 : decide ((a1.size : Int) ≤ (a0.size : Int)) = true := decide_eq_true c3
  have c3b1 : decide (a1.size ≤ a0.size) = true := decide_eq_true (Int.ofNat_le.mp c3)
  clear c3
  obtain ⟨c4, H⟩ := iteS H
  have c4b0 := eq_true c4
  have c4b1 := decide_eq_true c4
  clear c4
  obtain ⟨c5, H⟩ := iteS H
  have c5b0 := eq_true c5
  have c5b1 := decide_eq_true c5
  clear c5
  obtain rfl := Option.some.inj H
  go_enter Tryz.func76, Tryz.ntmps76
  go_wp2
  go_ret
  exact ⟨eqs, drw⟩
 ·rw [if_neg c3] at H
  have c3b0 : decide ((a1.size : Int) ≤ (a0.size : Int)) = false := decide_eq_false c3
  have c3b1 : decide (a1.size ≤ a0.size) = false := decide_eq_false (fun h => c3 (Int.ofNat_le.mpr h))
  clear c3
  obtain rfl := Option.some.inj H
  go_enter Tryz.func76, Tryz.ntmps76
  go_wp2
  go_ret
  exact ⟨eqs, drw⟩

/-! ### strings_HasPrefix: function 45 -/
def strings_HasPrefix.f (a0 : ByteArray) (a1 : ByteArray) : Option (Bool) := (stringslite_HasPrefix.f a0 a1).bind fun t101 => (some t101)
set_option maxHeartbeats 8000000 in
set_option maxRecDepth 100000 in
theorem strings_HasPrefix.calls (a0 : ByteArray) (a1 : ByteArray) (r : Bool) (w : World) (h : strings_HasPrefix.f a0 a1 = some r) :
    Calls Tryz.prog 45 #[.string a0, .string a1] w fun e w' => e = .returned (.bool r) ∧ Drawn0 w w' := by
 unfold strings_HasPrefix.f at h
 have H := h
 clear h
 replace H := Option.bind_eq_some_iff.mp H
 obtain ⟨t101, A30, H⟩ := H
 try dsimp only at H
 have A3 := Aside0.mk A30
 clear A30
 obtain rfl := Option.some.inj H
 go_enter Tryz.func45, Tryz.ntmps45
 go_wp2_with (first | ((with_reducible refine gc 76 rfl ?_); refine cl_ (some 7) Tryz.func76 (stringslite_HasPrefix.calls a0 a1 t101 _ A3.out) ?_; rintro w' ⟨nd, rfl⟩))
 go_ret
 exact ⟨eqs, drw⟩

/-! ### strings_TrimLeft: function 46 -/
def strings_TrimLeft.f (a0 : ByteArray) (a1 : ByteArray) : Option (ByteArray) := match a1.data.toList with
  | [c] => if c.toNat < 128 then some ⟨(Lib.trimLeftB a0.data.toList c).toArray⟩ else none
  | _ => none
theorem strings_TrimLeft.calls (a0 : ByteArray) (a1 : ByteArray) (r : ByteArray) (w : World) (h : strings_TrimLeft.f a0 a1 = some r) :
    Calls Tryz.prog 46 #[.string a0, .string a1] w fun e w' => e = .returned (.string r) ∧ Drawn0 w w' := by
 obtain ⟨⟨l⟩⟩ := a1
 unfold strings_TrimLeft.f at h
 match l, h with
 | [c], h =>
  simp only at h
  by_cases hc : c.toNat < 128
  ·rw [if_pos hc] at h
   obtain rfl := Option.some.inj h
   refine (Tryz.strings_TrimLeft_one a0 c hc w).mono ?_
   rintro e w' ⟨rfl, rfl⟩
   exact ⟨rfl, Drawn0.refl _⟩
  ·rw [if_neg hc] at h
   cases h
 | [], h => cases h
 | _ :: _ :: _, h => cases h

/-! ### mbox_marked: function 25 -/
def mbox_marked.f (a0 : ByteArray) : Option (Bool) := (strings_TrimLeft.f a0 (⟨#[62]⟩ : ByteArray)).bind fun t102 => ((strings_HasPrefix.f t102 (⟨#[70, 114, 111, 109, 32]⟩ : ByteArray)).bind fun t103 => (some t103))
set_option maxHeartbeats 8000000 in
set_option maxRecDepth 100000 in
theorem mbox_marked.calls (a0 : ByteArray) (r : Bool) (w : World) (h : mbox_marked.f a0 = some r) :
    Calls Tryz.prog 25 #[.string a0] w fun e w' => e = .returned (.bool r) ∧ Drawn0 w w' := by
 unfold mbox_marked.f at h
 have H := h
 clear h
 replace H := Option.bind_eq_some_iff.mp H
 obtain ⟨t102, A20, H⟩ := H
 try dsimp only at H
 have A2 := Aside0.mk A20
 clear A20
 replace H := Option.bind_eq_some_iff.mp H
 obtain ⟨t103, A30, H⟩ := H
 try dsimp only at H
 have A3 := Aside0.mk A30
 clear A30
 obtain rfl := Option.some.inj H
 go_enter Tryz.func25, Tryz.ntmps25
 go_wp2_with (first | ((with_reducible refine gc 46 rfl ?_); refine cl_ (some 4) Tryz.func46 (strings_TrimLeft.calls a0 (⟨#[62]⟩ : ByteArray) t102 _ A2.out) ?_; rintro w' ⟨nd, rfl⟩) | ((with_reducible refine gc 45 rfl ?_); refine cl_ (some 5) Tryz.func45 (strings_HasPrefix.calls t102 (⟨#[70, 114, 111, 109, 32]⟩ : ByteArray) t103 _ A3.out) ?_; rintro w' ⟨nd, rfl⟩))
 go_ret
 exact ⟨eqs, drw⟩

/-! ### mbox_Quote_1: function 24 -/
def mbox_Quote_1.f (a0 : ByteArray) : Option (ByteArray) := (mbox_marked.f a0).bind fun t104 => (if t104 = true then (if 1 + a0.size ≤ 9223372036854775807 then (some ((⟨#[62]⟩ : ByteArray) ++ a0)) else (none)) else (some a0))
set_option maxHeartbeats 8000000 in
set_option maxRecDepth 100000 in
theorem mbox_Quote_1.calls (a0 : ByteArray) (r : ByteArray) (w : World) (h : mbox_Quote_1.f a0 = some r) :
    Calls Tryz.prog 24 #[.string a0] w fun e w' => e = .returned (.string r) ∧ Drawn0 w w' := by
 unfold mbox_Quote_1.f at h
 have H := h
 clear h
 replace H := Option.bind_eq_some_iff.mp H
 obtain ⟨t104, A20, H⟩ := H
 try dsimp only at H
 have A2 := Aside0.mk A20
 clear A20
 by_cases c3 : t104 = true
 ·subst c3
  rw [if_pos rfl] at H
  obtain ⟨c4, H⟩ := iteS H
  have c4b0 := eq_true c4
  have c4b1 := decide_eq_true c4
  try have c4b2 := eq_false (Nat.not_lt.2 c4)
  obtain rfl := Option.some.inj H
  go_enter Tryz.func24, Tryz.ntmps24
  go_wp2_with (first | ((with_reducible refine gc 25 rfl ?_); refine cl_ (some 4) Tryz.func25 (mbox_marked.calls a0 true _ A2.out) ?_; rintro w' ⟨nd, rfl⟩))
  go_ret
  exact ⟨eqs, drw⟩
 ·replace c3 := Bool.eq_false_iff.mpr c3
  subst c3
  rw [if_neg nft] at H
  obtain rfl := Option.some.inj H
  go_enter Tryz.func24, Tryz.ntmps24
  go_wp2_with (first | ((with_reducible refine gc 25 rfl ?_); refine cl_ (some 4) Tryz.func25 (mbox_marked.calls a0 false _ A2.out) ?_; rintro w' ⟨nd, rfl⟩))
  go_ret
  exact ⟨eqs, drw⟩

/-! ### mbox_Quote: function 10 -/
/-- A function of each of some texts. -/
def mbox_Quote.mapO (f : ByteArray → Option ByteArray) : List ByteArray → Option (List ByteArray)
  | [] => some []
  | x :: xs => (f x).bind fun y => (mbox_Quote.mapO f xs).map (y :: ·)
def mbox_Quote.sep : ByteArray := ⟨#[13, 10]⟩
def mbox_Quote.f (a0 : ByteArray) : Option (ByteArray) := if a0.size < 4294967281 then (mbox_Quote.mapO mbox_Quote_1.f (Lib.splitB mbox_Quote.sep 0 (Lib.countB a0 mbox_Quote.sep) a0)).bind fun ys => (if (Lib.join (ys.map (·.data.toList)) mbox_Quote.sep.data.toList).length ≤ 140737488355328 then some ⟨(Lib.join (ys.map (·.data.toList)) mbox_Quote.sep.data.toList).toArray⟩ else none) else none
theorem mbox_Quote.mapO_is {f : ByteArray → Option ByteArray} : ∀ {xs ys : List ByteArray}, mbox_Quote.mapO f xs = some ys → ys.length = xs.length ∧ ∀ (i : Nat) x, xs[i]? = some x → ∃ y, ys[i]? = some y ∧ f x = some y
  | [], ys, h => by
    obtain rfl := Option.some.inj h
    exact ⟨rfl, fun i x h => by simp at h⟩
  | x :: xs, ys, h => by
    obtain ⟨y, hy, h⟩ := Option.bind_eq_some_iff.mp h
    obtain ⟨zs, hz, rfl⟩ := Option.map_eq_some_iff.mp h
    obtain ⟨h1, h2⟩ := mbox_Quote.mapO_is hz
    refine ⟨by simp [h1], fun i u hu => ?_⟩
    cases i with
    | zero =>
      obtain rfl : x = u := by simpa using hu
      exact ⟨y, rfl, hy⟩
    | succ i => exact h2 i u (by simpa using hu)
theorem mbox_Quote.mid_get {xs ys : List ByteArray} {k : Nat} (hl : ys.length = xs.length) (hk : k < xs.length) : ((ys.take k ++ xs.drop k).map Value.string).toArray[k]? = some (.string (xs[k]'hk)) := by
  simp only [List.getElem?_toArray, List.getElem?_map]
  rw [List.getElem?_append_right (by simp; omega)]
  have : k - (ys.take k).length = 0 := by simp; omega
  rw [this, List.getElem?_drop]
  simp [List.getElem?_eq_getElem hk]
theorem mbox_Quote.mid_set {xs ys : List ByteArray} {k : Nat} {y : ByteArray} (hl : ys.length = xs.length) (hk : k < xs.length) (hy : ys[k]? = some y) : ((ys.take k ++ xs.drop k).map Value.string).toArray.setIfInBounds k (.string y) = ((ys.take (k + 1) ++ xs.drop (k + 1)).map Value.string).toArray := by
  simp only [List.setIfInBounds_toArray]
  congr 1
  rw [← List.map_set]
  congr 1
  have h1 : (ys.take k).length = k := by simp; omega
  rw [List.set_append_right k y (by omega), h1, Nat.sub_self, List.drop_eq_getElem_cons hk, List.set_cons_zero, List.take_succ_eq_append_getElem (by omega : k < ys.length)]
  have : ys[k]'(by omega) = y := by
    have := List.getElem?_eq_getElem (l := ys) (i := k) (by omega)
    rw [this] at hy
    exact Option.some.inj hy
  rw [this]
  simp
set_option maxHeartbeats 4000000 in
set_option maxRecDepth 1000000 in
theorem mbox_Quote.each (xs ys : List ByteArray) (s : ByteArray) (w : World) (hG : Amb w) (h0 : s.size < 4294967281) (hx : xs = Lib.splitB mbox_Quote.sep 0 (Lib.countB s mbox_Quote.sep) s)
    (hl : ys.length = xs.length) (hy : ∀ (i : Nat) x, xs[i]? = some x → ∃ y, ys[i]? = some y ∧ mbox_Quote_1.f x = some y) (hj : (Lib.join (ys.map (·.data.toList)) mbox_Quote.sep.data.toList).length ≤ 140737488355328) :
    Calls Tryz.prog 23 #[.string s, .func (.func 24) #[] #[]] w fun e w' => e = .returned (.string ⟨(Lib.join (ys.map (·.data.toList)) mbox_Quote.sep.data.toList).toArray⟩) ∧ Below w.heap.size w w' := by
  obtain ⟨m, hm⟩ := hG.mx
  have hxl : xs.length = Lib.countB s mbox_Quote.sep + 1 := by rw [hx]; exact Lib.splitB_all _ (by decide) 0 _ s rfl
  have hcl := Lib.countB_le mbox_Quote.sep (by decide) s.size s (Nat.le_refl _)
  have hsp := Tryz.strings_Split s mbox_Quote.sep m w h0 hm (by decide)
  rw [← hxl, ← hx] at hsp
  have hxn : xs.length ≤ 4294967282 := by omega
  have HY := Lib.hid hy
  have HJ := Lib.hid hj
  have HL := Lib.hid hl
  clear hy hj hx hxl hcl hm hl
  go_enter Tryz.func23, Tryz.ntmps23
  go_wp2_with (go_at_call 43; refine hsp.mono ?_; rintro e w' ⟨rfl, rfl⟩)
  clear hsp
  have hb0 : Below w.heap.size w (w.alloc (.cells (xs.map Value.string).toArray 9)) := below_alloc (Below.refl _ _) _
  have hk0 : (w.alloc (.cells (xs.map Value.string).toArray 9)).heap[w.heap.size]? = some (.cells ((ys.take 0 ++ xs.drop 0).map Value.string).toArray 9 (0, 0)) := by
    rw [List.take_zero, List.drop_zero, List.nil_append]
    exact blk_new _ _
  go_loopw [11] (fun i wr => ∃ k : Nat, k ≤ xs.length ∧ i = .int .i64 k ∧ wr.heap[w.heap.size]? = some (.cells ((ys.take k ++ xs.drop k).map Value.string).toArray 9 (0, 0)) ∧ Below w.heap.size w wr) (fun i _ => xs.length - (intOf i).toNat)
  case atStart => exact ⟨0, Nat.zero_le _, rfl, hk0, hb0⟩
  case round =>
    obtain ⟨k, hk, rfl, hblk, hbw⟩ := hrel
    clear hk0 hb0
    have hsz := blk_lt hblk
    by_cases hlt : k < xs.length
    · have hc : wr.cell? ⟨w.heap.size, k, none⟩ = some (.string (xs[k]'hlt)) := (blk_cell hblk k).trans (mbox_Quote.mid_get HL.out hlt)
      obtain ⟨y, hy1, hy2⟩ := HY.out k _ (List.getElem?_eq_getElem hlt)
      have HY1 := Lib.hid hy1
      have HB := Lib.hid hblk
      clear hy1 hblk
      go_wp2_with fail
      go_at_call 24
      refine (mbox_Quote_1.calls _ _ _ hy2).mono ?_
      rintro e w1 ⟨rfl, hd⟩
      have hb1 : Below wr.heap.size wr w1 := by first | exact hd | exact hd.below
      have hblk1 := blk_below HB.out hb1
      have hc1 : w1.cell? ⟨w.heap.size, k, none⟩ = some (.string (xs[k]'hlt)) := (blk_cell hblk1 k).trans (mbox_Quote.mid_get HL.out hlt)
      have hf1 := blk_frozen hblk1 k
      have HB1 := Lib.hid hblk1
      have HD := Lib.hid hb1
      clear hd hblk1 hb1 hy2
      go_wp2
      go_roundw
      case rel => exact ⟨k + 1, by omega, by go_num, blk_put HB1.out k _ (mbox_Quote.mid_set HL.out hlt HY1.out), below_set (below_step hbw HD.out) (Nat.le_refl _)⟩
      case measure => simp [intOf]; omega
    · obtain rfl : xs.length = k := by omega
      have hcs : ∀ (j : Nat) x, ys[j]? = some x → wr.cell? ⟨w.heap.size, 0 + j, none⟩ = some (.string x) := by
        intro j x hx
        rw [Nat.zero_add, blk_cell hblk j, List.take_of_length_le (by rw [HL.out]; exact Nat.le_refl _), List.drop_length, List.append_nil]
        simp [hx]
      have HC := Lib.hid hcs
      clear hcs hblk
      go_wp2_with fail
      go_at_call 44
      rw [← HL.out]
      refine (Tryz.strings_Join w.heap.size 0 ys.length ys mbox_Quote.sep wr HC.out hsz (by rw [HL.out]; omega) (Nat.le_refl _) HJ.out).mono ?_
      rintro e w1 ⟨rfl, hb1⟩
      have HD := Lib.hid hb1
      clear hb1
      go_wp2
      go_ret
      exact ⟨rfl, below_step hbw HD.out⟩
set_option maxRecDepth 100000 in
theorem mbox_Quote.calls (a0 : ByteArray) (r : ByteArray) (w : World) (hG : Amb w) (h : mbox_Quote.f a0 = some r) :
    Calls Tryz.prog 10 #[.string a0] w fun e w' => e = .returned (.string r) ∧ Below w.heap.size w w' := by
 unfold mbox_Quote.f at h
 by_cases h0 : a0.size < 4294967281
 ·rw [if_pos h0] at h
  obtain ⟨ys, hm, h⟩ := Option.bind_eq_some_iff.mp h
  by_cases hj : (Lib.join (ys.map (·.data.toList)) mbox_Quote.sep.data.toList).length ≤ 140737488355328
  ·rw [if_pos hj] at h
   obtain rfl := Option.some.inj h
   obtain ⟨hl, hy⟩ := mbox_Quote.mapO_is hm
   have c := mbox_Quote.each _ ys a0 w hG h0 rfl hl hy hj
   go_enter Tryz.func10, Tryz.ntmps10
   go_wp2_with (go_at_call 23; refine c.mono ?_; rintro e w1 ⟨rfl, hb⟩)
   go_ret
   exact ⟨rfl, hb⟩
  ·rw [if_neg hj] at h
   cases h
 ·rw [if_neg h0] at h
  cases h

/-! ### strings_IndexByte: function 139 -/
def strings_IndexByte.f (a0 : ByteArray) (a1 : Int) : Option (Int) := some (Lib.indexByte a0.data.toList a1.toNat.toUInt8)
theorem strings_IndexByte.calls (a0 : ByteArray) (a1 : Int) (r : Int) (w : World) (h : strings_IndexByte.f a0 a1 = some r) :
    Calls Tryz.prog 139 #[.string a0, .int .u8 a1] w fun e w' => e = .returned (.int .i64 r) ∧ Drawn0 w w' := by
 unfold strings_IndexByte.f at h
 obtain rfl := Option.some.inj h
 refine (Tryz.strings_IndexByte a0 a1 w).mono ?_
 rintro e w' ⟨rfl, rfl⟩
 exact ⟨rfl, Drawn0.refl _⟩

/-! ### lex_atomic: function 114 -/
def lex_atomic.f (a0 : Int) : Option (Bool) := if a0 ≥ 97 then (if a0 ≤ 122 then (some true) else (if a0 ≥ 65 then (if a0 ≤ 90 then (some true) else (if a0 ≥ 48 then (if a0 ≤ 57 then (some true) else (if a0 > 127 then (some true) else ((strings_IndexByte.f (⟨#[33, 35, 36, 37, 38, 39, 42, 43, 45, 47, 61, 63, 94, 95, 96, 123, 124, 125, 126]⟩ : ByteArray) a0).bind fun t105 => (some (decide (t105 ≥ 0)))))) else (if a0 > 127 then (some true) else ((strings_IndexByte.f (⟨#[33, 35, 36, 37, 38, 39, 42, 43, 45, 47, 61, 63, 94, 95, 96, 123, 124, 125, 126]⟩ : ByteArray) a0).bind fun t106 => (some (decide (t106 ≥ 0))))))) else (if a0 ≥ 48 then (if a0 ≤ 57 then (some true) else (if a0 > 127 then (some true) else ((strings_IndexByte.f (⟨#[33, 35, 36, 37, 38, 39, 42, 43, 45, 47, 61, 63, 94, 95, 96, 123, 124, 125, 126]⟩ : ByteArray) a0).bind fun t107 => (some (decide (t107 ≥ 0)))))) else (if a0 > 127 then (some true) else ((strings_IndexByte.f (⟨#[33, 35, 36, 37, 38, 39, 42, 43, 45, 47, 61, 63, 94, 95, 96, 123, 124, 125, 126]⟩ : ByteArray) a0).bind fun t108 => (some (decide (t108 ≥ 0)))))))) else (if a0 ≥ 65 then (if a0 ≤ 90 then (some true) else (if a0 ≥ 48 then (if a0 ≤ 57 then (some true) else (if a0 > 127 then (some true) else ((strings_IndexByte.f (⟨#[33, 35, 36, 37, 38, 39, 42, 43, 45, 47, 61, 63, 94, 95, 96, 123, 124, 125, 126]⟩ : ByteArray) a0).bind fun t109 => (some (decide (t109 ≥ 0)))))) else (if a0 > 127 then (some true) else ((strings_IndexByte.f (⟨#[33, 35, 36, 37, 38, 39, 42, 43, 45, 47, 61, 63, 94, 95, 96, 123, 124, 125, 126]⟩ : ByteArray) a0).bind fun t110 => (some (decide (t110 ≥ 0))))))) else (if a0 ≥ 48 then (if a0 ≤ 57 then (some true) else (if a0 > 127 then (some true) else ((strings_IndexByte.f (⟨#[33, 35, 36, 37, 38, 39, 42, 43, 45, 47, 61, 63, 94, 95, 96, 123, 124, 125, 126]⟩ : ByteArray) a0).bind fun t111 => (some (decide (t111 ≥ 0)))))) else (if a0 > 127 then (some true) else ((strings_IndexByte.f (⟨#[33, 35, 36, 37, 38, 39, 42, 43, 45, 47, 61, 63, 94, 95, 96, 123, 124, 125, 126]⟩ : ByteArray) a0).bind fun t112 => (some (decide (t112 ≥ 0)))))))
set_option maxHeartbeats 8000000 in
set_option maxRecDepth 100000 in
theorem lex_atomic.calls (a0 : Int) (r : Bool) (w : World) (h : lex_atomic.f a0 = some r) :
    Calls Tryz.prog 114 #[.int .u8 a0] w fun e w' => e = .returned (.bool r) ∧ Drawn0 w w' := by
 unfold lex_atomic.f at h
 have H := h
 clear h
 by_cases c2 : a0 ≥ 97
 ·rw [if_pos c2] at H
  have c2b0 : decide (97 ≤ a0) = true := decide_eq_true c2
  clear c2
  by_cases c3 : a0 ≤ 122
  ·rw [if_pos c3] at H
   have c3b0 := decide_eq_true c3
   clear c3
   obtain rfl := Option.some.inj H
   go_enter Tryz.func114, Tryz.ntmps114
   go_wp2
   go_ret
   exact ⟨eqs, drw⟩
  ·rw [if_neg c3] at H
   have c3b0 := decide_eq_false c3
   clear c3
   by_cases c4 : a0 ≥ 65
   ·rw [if_pos c4] at H
    have c4b0 : decide (65 ≤ a0) = true := decide_eq_true c4
    clear c4
    by_cases c5 : a0 ≤ 90
    ·rw [if_pos c5] at H
     have c5b0 := decide_eq_true c5
     clear c5
     obtain rfl := Option.some.inj H
     go_enter Tryz.func114, Tryz.ntmps114
     go_wp2
     go_ret
     exact ⟨eqs, drw⟩
    ·rw [if_neg c5] at H
     have c5b0 := decide_eq_false c5
     clear c5
     by_cases c6 : a0 ≥ 48
     ·rw [if_pos c6] at H
      have c6b0 : decide (48 ≤ a0) = true := decide_eq_true c6
      clear c6
      by_cases c7 : a0 ≤ 57
      ·rw [if_pos c7] at H
       have c7b0 := decide_eq_true c7
       clear c7
       obtain rfl := Option.some.inj H
       go_enter Tryz.func114, Tryz.ntmps114
       go_wp2
       go_ret
       exact ⟨eqs, drw⟩
      ·rw [if_neg c7] at H
       have c7b0 := decide_eq_false c7
       clear c7
       by_cases c8 : a0 > 127
       ·rw [if_pos c8] at H
        have c8b0 : decide (127 < a0) = true := decide_eq_true c8
        clear c8
        obtain rfl := Option.some.inj H
        go_enter Tryz.func114, Tryz.ntmps114
        go_wp2
        go_ret
        exact ⟨eqs, drw⟩
       ·rw [if_neg c8] at H
        have c8b0 : decide (127 < a0) = false := decide_eq_false c8
        clear c8
        replace H := Option.bind_eq_some_iff.mp H
        obtain ⟨t105, A90, H⟩ := H
        try dsimp only at H
        have A9 := Aside0.mk A90
        clear A90
        obtain rfl := Option.some.inj H
        go_enter Tryz.func114, Tryz.ntmps114
        go_wp2_with (first | ((with_reducible refine gc 139 rfl ?_); refine cl_ (some 31) Tryz.func139 (strings_IndexByte.calls (⟨#[33, 35, 36, 37, 38, 39, 42, 43, 45, 47, 61, 63, 94, 95, 96, 123, 124, 125, 126]⟩ : ByteArray) a0 t105 _ A9.out) ?_; rintro w' ⟨nd, rfl⟩))
        go_ret
        exact ⟨eqs, drw⟩
     ·rw [if_neg c6] at H
      have c6b0 : decide (48 ≤ a0) = false := decide_eq_false c6
      clear c6
      by_cases c10 : a0 > 127
      ·rw [if_pos c10] at H
       have c10b0 : decide (127 < a0) = true := decide_eq_true c10
       clear c10
       obtain rfl := Option.some.inj H
       go_enter Tryz.func114, Tryz.ntmps114
       go_wp2
       go_ret
       exact ⟨eqs, drw⟩
      ·rw [if_neg c10] at H
       have c10b0 : decide (127 < a0) = false := decide_eq_false c10
       clear c10
       replace H := Option.bind_eq_some_iff.mp H
       obtain ⟨t106, A110, H⟩ := H
       try dsimp only at H
       have A11 := Aside0.mk A110
       clear A110
       obtain rfl := Option.some.inj H
       go_enter Tryz.func114, Tryz.ntmps114
       go_wp2_with (first | ((with_reducible refine gc 139 rfl ?_); refine cl_ (some 31) Tryz.func139 (strings_IndexByte.calls (⟨#[33, 35, 36, 37, 38, 39, 42, 43, 45, 47, 61, 63, 94, 95, 96, 123, 124, 125, 126]⟩ : ByteArray) a0 t106 _ A11.out) ?_; rintro w' ⟨nd, rfl⟩))
       go_ret
       exact ⟨eqs, drw⟩
   ·rw [if_neg c4] at H
    have c4b0 : decide (65 ≤ a0) = false := decide_eq_false c4
    clear c4
    by_cases c12 : a0 ≥ 48
    ·rw [if_pos c12] at H
     have c12b0 : decide (48 ≤ a0) = true := decide_eq_true c12
     clear c12
     by_cases c13 : a0 ≤ 57
     ·rw [if_pos c13] at H
      have c13b0 := decide_eq_true c13
      clear c13
      obtain rfl := Option.some.inj H
      go_enter Tryz.func114, Tryz.ntmps114
      go_wp2
      go_ret
      exact ⟨eqs, drw⟩
     ·rw [if_neg c13] at H
      have c13b0 := decide_eq_false c13
      clear c13
      by_cases c14 : a0 > 127
      ·rw [if_pos c14] at H
       have c14b0 : decide (127 < a0) = true := decide_eq_true c14
       clear c14
       obtain rfl := Option.some.inj H
       go_enter Tryz.func114, Tryz.ntmps114
       go_wp2
       go_ret
       exact ⟨eqs, drw⟩
      ·rw [if_neg c14] at H
       have c14b0 : decide (127 < a0) = false := decide_eq_false c14
       clear c14
       replace H := Option.bind_eq_some_iff.mp H
       obtain ⟨t107, A150, H⟩ := H
       try dsimp only at H
       have A15 := Aside0.mk A150
       clear A150
       obtain rfl := Option.some.inj H
       go_enter Tryz.func114, Tryz.ntmps114
       go_wp2_with (first | ((with_reducible refine gc 139 rfl ?_); refine cl_ (some 31) Tryz.func139 (strings_IndexByte.calls (⟨#[33, 35, 36, 37, 38, 39, 42, 43, 45, 47, 61, 63, 94, 95, 96, 123, 124, 125, 126]⟩ : ByteArray) a0 t107 _ A15.out) ?_; rintro w' ⟨nd, rfl⟩))
       go_ret
       exact ⟨eqs, drw⟩
    ·rw [if_neg c12] at H
     have c12b0 : decide (48 ≤ a0) = false := decide_eq_false c12
     clear c12
     by_cases c16 : a0 > 127
     ·rw [if_pos c16] at H
      have c16b0 : decide (127 < a0) = true := decide_eq_true c16
      clear c16
      obtain rfl := Option.some.inj H
      go_enter Tryz.func114, Tryz.ntmps114
      go_wp2
      go_ret
      exact ⟨eqs, drw⟩
     ·rw [if_neg c16] at H
      have c16b0 : decide (127 < a0) = false := decide_eq_false c16
      clear c16
      replace H := Option.bind_eq_some_iff.mp H
      obtain ⟨t108, A170, H⟩ := H
      try dsimp only at H
      have A17 := Aside0.mk A170
      clear A170
      obtain rfl := Option.some.inj H
      go_enter Tryz.func114, Tryz.ntmps114
      go_wp2_with (first | ((with_reducible refine gc 139 rfl ?_); refine cl_ (some 31) Tryz.func139 (strings_IndexByte.calls (⟨#[33, 35, 36, 37, 38, 39, 42, 43, 45, 47, 61, 63, 94, 95, 96, 123, 124, 125, 126]⟩ : ByteArray) a0 t108 _ A17.out) ?_; rintro w' ⟨nd, rfl⟩))
      go_ret
      exact ⟨eqs, drw⟩
 ·rw [if_neg c2] at H
  have c2b0 : decide (97 ≤ a0) = false := decide_eq_false c2
  clear c2
  by_cases c18 : a0 ≥ 65
  ·rw [if_pos c18] at H
   have c18b0 : decide (65 ≤ a0) = true := decide_eq_true c18
   clear c18
   by_cases c19 : a0 ≤ 90
   ·rw [if_pos c19] at H
    have c19b0 := decide_eq_true c19
    clear c19
    obtain rfl := Option.some.inj H
    go_enter Tryz.func114, Tryz.ntmps114
    go_wp2
    go_ret
    exact ⟨eqs, drw⟩
   ·rw [if_neg c19] at H
    have c19b0 := decide_eq_false c19
    clear c19
    by_cases c20 : a0 ≥ 48
    ·rw [if_pos c20] at H
     have c20b0 : decide (48 ≤ a0) = true := decide_eq_true c20
     clear c20
     by_cases c21 : a0 ≤ 57
     ·rw [if_pos c21] at H
      have c21b0 := decide_eq_true c21
      clear c21
      obtain rfl := Option.some.inj H
      go_enter Tryz.func114, Tryz.ntmps114
      go_wp2
      go_ret
      exact ⟨eqs, drw⟩
     ·rw [if_neg c21] at H
      have c21b0 := decide_eq_false c21
      clear c21
      by_cases c22 : a0 > 127
      ·rw [if_pos c22] at H
       have c22b0 : decide (127 < a0) = true := decide_eq_true c22
       clear c22
       obtain rfl := Option.some.inj H
       go_enter Tryz.func114, Tryz.ntmps114
       go_wp2
       go_ret
       exact ⟨eqs, drw⟩
      ·rw [if_neg c22] at H
       have c22b0 : decide (127 < a0) = false := decide_eq_false c22
       clear c22
       replace H := Option.bind_eq_some_iff.mp H
       obtain ⟨t109, A230, H⟩ := H
       try dsimp only at H
       have A23 := Aside0.mk A230
       clear A230
       obtain rfl := Option.some.inj H
       go_enter Tryz.func114, Tryz.ntmps114
       go_wp2_with (first | ((with_reducible refine gc 139 rfl ?_); refine cl_ (some 31) Tryz.func139 (strings_IndexByte.calls (⟨#[33, 35, 36, 37, 38, 39, 42, 43, 45, 47, 61, 63, 94, 95, 96, 123, 124, 125, 126]⟩ : ByteArray) a0 t109 _ A23.out) ?_; rintro w' ⟨nd, rfl⟩))
       go_ret
       exact ⟨eqs, drw⟩
    ·rw [if_neg c20] at H
     have c20b0 : decide (48 ≤ a0) = false := decide_eq_false c20
     clear c20
     by_cases c24 : a0 > 127
     ·rw [if_pos c24] at H
      have c24b0 : decide (127 < a0) = true := decide_eq_true c24
      clear c24
      obtain rfl := Option.some.inj H
      go_enter Tryz.func114, Tryz.ntmps114
      go_wp2
      go_ret
      exact ⟨eqs, drw⟩
     ·rw [if_neg c24] at H
      have c24b0 : decide (127 < a0) = false := decide_eq_false c24
      clear c24
      replace H := Option.bind_eq_some_iff.mp H
      obtain ⟨t110, A250, H⟩ := H
      try dsimp only at H
      have A25 := Aside0.mk A250
      clear A250
      obtain rfl := Option.some.inj H
      go_enter Tryz.func114, Tryz.ntmps114
      go_wp2_with (first | ((with_reducible refine gc 139 rfl ?_); refine cl_ (some 31) Tryz.func139 (strings_IndexByte.calls (⟨#[33, 35, 36, 37, 38, 39, 42, 43, 45, 47, 61, 63, 94, 95, 96, 123, 124, 125, 126]⟩ : ByteArray) a0 t110 _ A25.out) ?_; rintro w' ⟨nd, rfl⟩))
      go_ret
      exact ⟨eqs, drw⟩
  ·rw [if_neg c18] at H
   have c18b0 : decide (65 ≤ a0) = false := decide_eq_false c18
   clear c18
   by_cases c26 : a0 ≥ 48
   ·rw [if_pos c26] at H
    have c26b0 : decide (48 ≤ a0) = true := decide_eq_true c26
    clear c26
    by_cases c27 : a0 ≤ 57
    ·rw [if_pos c27] at H
     have c27b0 := decide_eq_true c27
     clear c27
     obtain rfl := Option.some.inj H
     go_enter Tryz.func114, Tryz.ntmps114
     go_wp2
     go_ret
     exact ⟨eqs, drw⟩
    ·rw [if_neg c27] at H
     have c27b0 := decide_eq_false c27
     clear c27
     by_cases c28 : a0 > 127
     ·rw [if_pos c28] at H
      have c28b0 : decide (127 < a0) = true := decide_eq_true c28
      clear c28
      obtain rfl := Option.some.inj H
      go_enter Tryz.func114, Tryz.ntmps114
      go_wp2
      go_ret
      exact ⟨eqs, drw⟩
     ·rw [if_neg c28] at H
      have c28b0 : decide (127 < a0) = false := decide_eq_false c28
      clear c28
      replace H := Option.bind_eq_some_iff.mp H
      obtain ⟨t111, A290, H⟩ := H
      try dsimp only at H
      have A29 := Aside0.mk A290
      clear A290
      obtain rfl := Option.some.inj H
      go_enter Tryz.func114, Tryz.ntmps114
      go_wp2_with (first | ((with_reducible refine gc 139 rfl ?_); refine cl_ (some 31) Tryz.func139 (strings_IndexByte.calls (⟨#[33, 35, 36, 37, 38, 39, 42, 43, 45, 47, 61, 63, 94, 95, 96, 123, 124, 125, 126]⟩ : ByteArray) a0 t111 _ A29.out) ?_; rintro w' ⟨nd, rfl⟩))
      go_ret
      exact ⟨eqs, drw⟩
   ·rw [if_neg c26] at H
    have c26b0 : decide (48 ≤ a0) = false := decide_eq_false c26
    clear c26
    by_cases c30 : a0 > 127
    ·rw [if_pos c30] at H
     have c30b0 : decide (127 < a0) = true := decide_eq_true c30
     clear c30
     obtain rfl := Option.some.inj H
     go_enter Tryz.func114, Tryz.ntmps114
     go_wp2
     go_ret
     exact ⟨eqs, drw⟩
    ·rw [if_neg c30] at H
     have c30b0 : decide (127 < a0) = false := decide_eq_false c30
     clear c30
     replace H := Option.bind_eq_some_iff.mp H
     obtain ⟨t112, A310, H⟩ := H
     try dsimp only at H
     have A31 := Aside0.mk A310
     clear A310
     obtain rfl := Option.some.inj H
     go_enter Tryz.func114, Tryz.ntmps114
     go_wp2_with (first | ((with_reducible refine gc 139 rfl ?_); refine cl_ (some 31) Tryz.func139 (strings_IndexByte.calls (⟨#[33, 35, 36, 37, 38, 39, 42, 43, 45, 47, 61, 63, 94, 95, 96, 123, 124, 125, 126]⟩ : ByteArray) a0 t112 _ A31.out) ?_; rintro w' ⟨nd, rfl⟩))
     go_ret
     exact ⟨eqs, drw⟩

/-! ### lex_IsAtom: function 82 -/
def lex_IsAtom.l0 : Nat → ByteArray → Int → Int → Option (Bool)
  | 0, _, _, _ => none
  | k + 1, x0, x5, x6 => if x6 < x5 then (if 0 ≤ x6 then (if x6 < (x0.size : Int) then ((lex_atomic.f (bt x0 x6)).bind fun t113 => (if t113 = true then (lex_IsAtom.l0 k x0 x5 (wrap64 (x6 + 1))) else (some false))) else (none)) else (none)) else (some (x0.toList != ([] : List UInt8)))
def lex_IsAtom.f (k : Nat) (a0 : ByteArray) : Option (Bool) := lex_IsAtom.l0 k a0 (a0.size : Int) 0
theorem lex_IsAtom.mono_l : ∀ k, (∀ y0 y1 y2, LeO (lex_IsAtom.l0 k y0 y1 y2) (lex_IsAtom.l0 (k + 1) y0 y1 y2))
  | 0 => fun _ _ _ r h => by simp [lex_IsAtom.l0] at h
  | k + 1 => by
    have ih0 := lex_IsAtom.mono_l k
    · intro y0 y1 y2
      unfold lex_IsAtom.l0
      repeat' first | (with_reducible first | exact ih0 _ _ _ | exact LeO.refl _ | exact LeO.none _ | refine LeO.ite ?_ ?_ | refine LeO.bind ?_ (fun _ => ?_)) | exact ih0 _ _ _ | exact LeO.none _ | refine LeO.ite ?_ ?_ | refine LeO.bind ?_ (fun _ => ?_)
theorem lex_IsAtom.mono : ∀ a0 k, LeO (lex_IsAtom.f k a0) (lex_IsAtom.f (k + 1) a0) := by
  intro a0 k
  have ih0 := lex_IsAtom.mono_l k
  unfold lex_IsAtom.f
  repeat' first | (with_reducible first | exact ih0 _ _ _ | exact LeO.refl _ | exact LeO.none _ | refine LeO.ite ?_ ?_ | refine LeO.bind ?_ (fun _ => ?_)) | exact ih0 _ _ _ | exact LeO.none _ | refine LeO.ite ?_ ?_ | refine LeO.bind ?_ (fun _ => ?_)
set_option maxHeartbeats 8000000 in
set_option maxRecDepth 100000 in
theorem lex_IsAtom.calls (k : Nat) (a0 : ByteArray) (r : Bool) (w : World) (h : lex_IsAtom.f k a0 = some r) :
    Calls Tryz.prog 82 #[.string a0] w fun e w' => e = .returned (.bool r) ∧ Drawn0 w w' := by
 unfold lex_IsAtom.f at h
 have H := h
 clear h
 have H' := Aside0.mk H
 clear H
 go_enter Tryz.func82, Tryz.ntmps82
 go_wp2
 go_loopg [6] k (fun kq v6 w' => ∃ (x6_1 : Int), v6 = .int .i64 x6_1 ∧ Aside0 (lex_IsAtom.l0 kq a0 (a0.size : Int) x6_1 = some r) ∧ Aside0 (kq ≤ k) ∧ Drawn0 w w')
 case atStart => exact ⟨(0), (by first | rfl | (simp; done) | (simp [*]; done) | (simp; exact (by intro l_; cases l_ <;> rfl : ∀ l_ : List UInt8, l_.isEmpty = !(l_ != [])) _)), H', ⟨Nat.le_refl _⟩, drw⟩
 case round =>
  clear H'
  obtain ⟨x6_1, rfl, HA, HK1, ⟨m1, rfl⟩⟩ := hrel
  cases gk with
  | zero => exact absurd HA.out (by simp [lex_IsAtom.l0])
  | succ k1 =>
   have H := HA.out
   clear HA
   simp only [lex_IsAtom.l0] at H
   by_cases c2 : x6_1 < (a0.size : Int)
   ·rw [if_pos c2] at H
    have c2b0 := decide_eq_true c2
    clear c2
    obtain ⟨c3, H⟩ := iteS H
    have c3b0 := decide_eq_true c3
    clear c3
    obtain ⟨c4, H⟩ := iteS H
    have c4b0 := decide_eq_true c4
    clear c4
    replace H := Option.bind_eq_some_iff.mp H
    obtain ⟨t113, A60, H⟩ := H
    try dsimp only at H
    have A6 := Aside0.mk A60
    clear A60
    by_cases c7 : t113 = true
    ·subst c7
     rw [if_pos rfl] at H
     have H' := Aside0.mk H
     clear H
     have p5 : 0 ≤ (x6_1 : Int) := od_
     have q5 : x6_1 < (a0.size : Int) := od_
     have hx5 := bt_at a0 x6_1
     replace p5 := eq_true p5
     replace q5 := eq_true q5
     go_wp2_with (first | ((with_reducible refine gc 114 rfl ?_); refine cl_ (some 12) Tryz.func114 (lex_atomic.calls (bt a0 x6_1) true _ A6.out) ?_; rintro w' ⟨nd, rfl⟩))
     go_roundg k1
     case measure => have := HK1.out; omega
     case rel => exact ⟨(wrap64 (x6_1 + 1)), (by first | rfl | (simp; done) | (simp [*]; done) | (simp; exact (by intro l_; cases l_ <;> rfl : ∀ l_ : List UInt8, l_.isEmpty = !(l_ != [])) _)), H', ⟨by have := HK1.out; omega⟩, drw⟩
    ·replace c7 := Bool.eq_false_iff.mpr c7
     subst c7
     rw [if_neg nft] at H
     obtain rfl := Option.some.inj H
     have p5 : 0 ≤ (x6_1 : Int) := od_
     have q5 : x6_1 < (a0.size : Int) := od_
     have hx5 := bt_at a0 x6_1
     replace p5 := eq_true p5
     replace q5 := eq_true q5
     go_wp2_with (first | ((with_reducible refine gc 114 rfl ?_); refine cl_ (some 12) Tryz.func114 (lex_atomic.calls (bt a0 x6_1) false _ A6.out) ?_; rintro w' ⟨nd, rfl⟩))
     go_ret
     exact ⟨by first | rfl | (simp; done) | (simp [*]; done) | (simp; exact (by intro l_; cases l_ <;> rfl : ∀ l_ : List UInt8, l_.isEmpty = !(l_ != [])) _), drw⟩
   ·rw [if_neg c2] at H
    have c2b0 := decide_eq_false c2
    clear c2
    obtain rfl := Option.some.inj H
    go_wp2
    go_ret
    exact ⟨by first | rfl | (simp; done) | (simp [*]; done) | (simp; exact (by intro l_; cases l_ <;> rfl : ∀ l_ : List UInt8, l_.isEmpty = !(l_ != [])) _), drw⟩

/-! ### addr_Dotted: function 48 -/
def addr_Dotted.f (k : Nat) (a0 : ByteArray) : Option (Bool) := if a0.size ≤ 140737488355327 then (Sp.allP (lex_IsAtom.f k) (Sp.parts 46 a0)) else none
theorem addr_Dotted.mono : ∀ a0 k, LeO (addr_Dotted.f k a0) (addr_Dotted.f (k + 1) a0) := by
  intro a0 k
  unfold addr_Dotted.f
  exact LeO.ite (Sp.allP_mono _ _ (fun x => lex_IsAtom.mono x k) _) (LeO.none _)
section
open Go Go.Shelf Go.Proofs.YtcpmoolpbeeedaaGreatDoorW.SeqC Sp
attribute [local go_sem] Oper.semAt_some
set_option maxHeartbeats 2000000 in
theorem addr_Dotted.calls (k : Nat) (a0 : ByteArray) (r : Bool) (w : World) (h : addr_Dotted.f k a0 = some r) :
    Calls Tryz.prog 48 #[.string a0] w fun e w' => e = .returned (.bool r) ∧ Below w.heap.size w w' := by
 unfold addr_Dotted.f at h
 obtain ⟨hsz, h⟩ : a0.size ≤ 140737488355327 ∧ Sp.allP (lex_IsAtom.f k) (Sp.parts 46 a0) = some r := by
  by_cases h0 : a0.size ≤ 140737488355327
  ·rw [if_pos h0] at h; exact ⟨h0, h⟩
  ·rw [if_neg h0] at h; cases h
 have hA := fun x r w hx => lex_IsAtom.calls k x r w hx
 refine (callsIn_wide (n := 3)).1 ?_
 refine callsIn_of_wp_marks Tryz.func48 rfl trivial ?_ rfl
 simp only [Tryz.ntmps48, List.size_toArray, List.length_cons, List.length_nil, Nat.reduceAdd, Nat.reduceSub, Array.replicate_succ, Array.replicate_zero, List.push_toArray, List.append_toArray, List.nil_append, List.cons_append]
 gi_wp2_with (refine ⟨trivial, (callsIn_wide.2 (splitSeq_in 3 a0 ⟨#[46]⟩ _)).mono ?_⟩; rintro e w' ⟨rfl, rfl⟩)
 have c0 := World.alloc_heap_new w (.cells #[.bool false] 4)
 obtain ⟨t0, t1, t2⟩ := three (w.alloc (.cells #[.bool false] 4)) (.cells #[.string a0] 9) (.cells #[.string ⟨#[46]⟩] 9) (.cells #[.int .i64 0] 3)
 simp only [World.size_alloc] at t0 t1 t2
 have hB0 : Below w.heap.size w ((((w.alloc (.cells #[.bool false] 4)).alloc (.cells #[.string a0] 9)).alloc (.cells #[.string ⟨#[46]⟩] 9)).alloc (.cells #[.int .i64 0] 3)) :=
  ((((Below.refl _ w).alloc (Nat.le_refl _) _).alloc (by simp) _).alloc (by simp; omega) _).alloc (by simp; omega) _
 refine wpIn_range_cell rfl (by decide) (gf := 138) (lb := #[.pointer (some ⟨w.heap.size + 1 + 1, 0, none⟩), .pointer (some ⟨w.heap.size + 1, 0, none⟩), .pointer (some ⟨w.heap.size + 1 + 2, 0, none⟩)]) rfl trivial (enters_of Tryz.func138 (by kernel_rfl) rfl)
  (splitIt 2 a0 hsz 46 (w.heap.size + 1) _ (by simp) t0 t1 t2) (by simp) ((blk_cell t0 0).trans rfl) kp3_t (kp3_b (by simp)) (fun _ => rfl)
  (fun pre W => (∀ y ∈ pre, lex_IsAtom.f k y = some true) ∧ W.heap[w.heap.size]? = some (.cells #[.bool false] 4 (0, 0)) ∧ Below w.heap.size w W)
  (fun c pre W => c = .ret ∧ r = false ∧ W.heap[w.heap.size]? = some (.cells #[.bool false] 4 (0, 0)) ∧ Below w.heap.size w W)
  (fun s A B row hs hg hr => ⟨hs.1, blk_own hs.2.1 hg hr, ownFrom_below (Nat.le_refl _) (by simp; omega) s A B row hs.2.2 hg hr⟩)
  (fun c s A B row hs hg hr => ⟨hs.1, hs.2.1, blk_own hs.2.2.1 hg hr, ownFrom_below (Nat.le_refl _) (by simp; omega) s A B row hs.2.2.2 hg hr⟩)
  (fun s W v hs => ⟨hs.1, (Below.heap_setCell W _ v _ (by simp)).trans hs.2.1, hs.2.2.setCell (by simp) _⟩)
  ⟨by simp, (Below.heap_alloc _ _ _ (by simp; omega)).trans ((Below.heap_alloc _ _ _ (by simp; omega)).trans ((Below.heap_alloc _ _ _ (by simp)).trans c0)), hB0⟩
  (fun x => { tmps := #[.string a0, undef, .pointer (some ⟨w.heap.size, 0, none⟩), .string x, .string a0, .func (.func 138) #[] #[.pointer (some ⟨w.heap.size + 1 + 1, 0, none⟩), .pointer (some ⟨w.heap.size + 1, 0, none⟩), .pointer (some ⟨w.heap.size + 1 + 2, 0, none⟩)], .string x, undef, undef, undef], defers := [] }) ?assign ?body ?done ?stop
 case assign =>
  intro l x W K hK
  gi_wp2
  exact hK
 case body =>
  rintro l pre x W ⟨hp, hcr, hB⟩ ⟨ys, hys⟩
  rw [← hys, List.append_assoc] at h
  obtain ⟨bx, hbx, hrx⟩ := allP_pre pre x ys r hp h
  have hcc : W.cell? ⟨w.heap.size, 0, none⟩ = some (.bool false) := (blk_cell hcr 0).trans rfl
  have hff : W.frozen? ⟨w.heap.size, 0, none⟩ = false := blk_frozen hcr 0
  cases bx with
  | false =>
   obtain rfl : r = false := hrx rfl
   gi_wp2_with (refine ⟨trivial, (CallsIn.inRound l (callsIn_wide.2 (hA x false _ hbx))).mono ?_⟩; rintro e w' ⟨rfl, ⟨nd, rfl⟩⟩)
   exact ⟨(ko_drewN W nd).trans (KeepsOthers.setCell _ _ _), rfl, one_setCell (w := W.drewN nd) (u := .bool false) hcr, Below.setCell (pw_below_drewN hB nd) (p := ⟨w.heap.size, 0, none⟩) (by simp) _⟩
  | true =>
   gi_wp2_with (refine ⟨trivial, (CallsIn.inRound l (callsIn_wide.2 (hA x true _ hbx))).mono ?_⟩; rintro e w' ⟨rfl, ⟨nd, rfl⟩⟩)
   exact ⟨ko_drewN W nd, kp3_drewN _ _ _, fun y hy => (List.mem_append.1 hy).elim (hp y) (fun e => by simp at e; subst e; exact hbx), hcr, pw_below_drewN hB nd⟩
 case done =>
  rintro D ys W hD rfl ⟨hp, hcr, hB⟩ hK
  obtain rfl : true = r := Option.some.inj ((allP_all _ hp).symm.trans h)
  have hcc : W.cell? ⟨w.heap.size, 0, none⟩ = some (.bool false) := (blk_cell hcr 0).trans rfl
  have hff : W.frozen? ⟨w.heap.size, 0, none⟩ = false := blk_frozen hcr 0
  gi_wp2
  have hK' := (KeepsOthers.setCell W ⟨w.heap.size, 0, none⟩ (.bool true)).same D _ hK rfl
  refine ⟨by simp, .inl ⟨_, _, rfl, run_takeDeferred hK', ?_⟩⟩
  have hc5 := cell_kept ((blk_cell (one_setCell (u := .bool true) hcr) 0).trans rfl) (grownBy_putObj' _ D (.deferred none)) (fun r e => by cases e; exact ⟨_, hK', rfl⟩)
  refine ⟨.bool true, ?_, rfl, (hB.setCell (p := ⟨w.heap.size, 0, none⟩) (by simp) _).trans (belowK_b (w := w) (Nat.le_refl _) _ D _ _ (by simp at hD; omega) hK' rfl rfl)⟩
  simp [results, Tryz.f48, go_sem, hc5]
 case stop =>
  rintro D c pre W hD hpre ⟨rfl, rfl, hcr, hB⟩ hK
  gi_wp2
  refine ⟨by simp, .inl ⟨_, _, rfl, run_takeDeferred hK, ?_⟩⟩
  have hc5 := cell_kept ((blk_cell hcr 0).trans rfl) (grownBy_putObj' _ D (.deferred none)) (fun r e => by cases e; exact ⟨_, hK, rfl⟩)
  refine ⟨.bool false, ?_, rfl, hB.trans (belowK_b (w := w) (Nat.le_refl _) W D _ _ (by simp at hD; omega) hK rfl rfl)⟩
  simp [results, Tryz.f48, go_sem, hc5]
end

/-! ### lex_text: function 83 -/
def lex_text.f (a0 : Int) : Option (Bool) := if a0 = 9 then (some true) else (if a0 ≥ 32 then (some (a0 != 127)) else (some false))
set_option maxHeartbeats 8000000 in
set_option maxRecDepth 100000 in
theorem lex_text.calls (a0 : Int) (r : Bool) (w : World) (h : lex_text.f a0 = some r) :
    Calls Tryz.prog 83 #[.int .u8 a0] w fun e w' => e = .returned (.bool r) ∧ Drawn0 w w' := by
 unfold lex_text.f at h
 have H := h
 clear h
 by_cases c2 : a0 = 9
 ·rw [if_pos c2] at H
  have c2b0 := beq_iff_eq.mpr c2
  have c2b1 := bne_eq_false_iff_eq.mpr c2
  clear c2
  obtain rfl := Option.some.inj H
  go_enter Tryz.func83, Tryz.ntmps83
  go_wp2
  go_ret
  exact ⟨eqs, drw⟩
 ·rw [if_neg c2] at H
  have c2b0 := beq_eq_false_iff_ne.mpr c2
  have c2b1 := bne_iff_ne.mpr c2
  by_cases c3 : a0 ≥ 32
  ·rw [if_pos c3] at H
   have c3b0 : decide (32 ≤ a0) = true := decide_eq_true c3
   clear c3
   obtain rfl := Option.some.inj H
   go_enter Tryz.func83, Tryz.ntmps83
   go_wp2
   go_ret
   exact ⟨eqs, drw⟩
  ·rw [if_neg c3] at H
   have c3b0 : decide (32 ≤ a0) = false := decide_eq_false c3
   clear c3
   obtain rfl := Option.some.inj H
   go_enter Tryz.func83, Tryz.ntmps83
   go_wp2
   go_ret
   exact ⟨eqs, drw⟩

end Go.Proofs.YtcpmoolpbeeedaaGreatDoor.Q
