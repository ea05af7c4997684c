-- Written by a program of this session (wip/myprint) out of the translation, for YtcpmoolpbeeedaaGreatDoor.
import Derived.Test.YtcpmoolpbeeedaaGreatDoorQ0
import Derived.Test.YtcpmoolpbeeedaaGreatDoorQ8
namespace Go.Proofs.YtcpmoolpbeeedaaGreatDoor.Q
open Go.RowKit Go.Proofs.YtcpmoolpbeeedaaGreatDoorW.PrintWords Go.Proofs.YtcpmoolpbeeedaaGreatDoorW.PrintLast Go.Proofs.YtcpmoolpbeeedaaGreatDoorW.PrintMore Go.Proofs.YtcpmoolpbeeedaaGreatDoorW.PrintSq
attribute [local go_sem] max2_int min2_int max_two min_two max_three min_three max_four min_four   -- for this text's walks alone
set_option linter.unusedVariables false
set_option linter.unusedSimpArgs false

/-! ### mbox_Unquote: function 12 -/
/-- A function of each of some texts. -/
def mbox_Unquote.mapO (f : ByteArray → Option ByteArray) : List ByteArray → Option (List ByteArray)
  | [] => some []
  | x :: xs => (f x).bind fun y => (mbox_Unquote.mapO f xs).map (y :: ·)
def mbox_Unquote.sep : ByteArray := ⟨#[13, 10]⟩
def mbox_Unquote.f (a0 : ByteArray) : Option (ByteArray) := if a0.size < 4294967281 then (mbox_Unquote.mapO mbox_Unquote_1.f (Lib.splitB mbox_Unquote.sep 0 (Lib.countB a0 mbox_Unquote.sep) a0)).bind fun ys => (if (Lib.join (ys.map (·.data.toList)) mbox_Unquote.sep.data.toList).length ≤ 140737488355328 then some ⟨(Lib.join (ys.map (·.data.toList)) mbox_Unquote.sep.data.toList).toArray⟩ else none) else none
theorem mbox_Unquote.mapO_is {f : ByteArray → Option ByteArray} : ∀ {xs ys : List ByteArray}, mbox_Unquote.mapO f xs = some ys → ys.length = xs.length ∧ ∀ (i : Nat) x, xs[i]? = some x → ∃ y, ys[i]? = some y ∧ f x = some y
  | [], ys, h => by
    obtain rfl := Option.some.inj h
    exact ⟨rfl, fun i x h => by simp at h⟩
  | x :: xs, ys, h => by
    obtain ⟨y, hy, h⟩ := Option.bind_eq_some_iff.mp h
    obtain ⟨zs, hz, rfl⟩ := Option.map_eq_some_iff.mp h
    obtain ⟨h1, h2⟩ := mbox_Unquote.mapO_is hz
    refine ⟨by simp [h1], fun i u hu => ?_⟩
    cases i with
    | zero =>
      obtain rfl : x = u := by simpa using hu
      exact ⟨y, rfl, hy⟩
    | succ i => exact h2 i u (by simpa using hu)
theorem mbox_Unquote.mid_get {xs ys : List ByteArray} {k : Nat} (hl : ys.length = xs.length) (hk : k < xs.length) : ((ys.take k ++ xs.drop k).map Value.string).toArray[k]? = some (.string (xs[k]'hk)) := by
  simp only [List.getElem?_toArray, List.getElem?_map]
  rw [List.getElem?_append_right (by simp; omega)]
  have : k - (ys.take k).length = 0 := by simp; omega
  rw [this, List.getElem?_drop]
  simp [List.getElem?_eq_getElem hk]
theorem mbox_Unquote.mid_set {xs ys : List ByteArray} {k : Nat} {y : ByteArray} (hl : ys.length = xs.length) (hk : k < xs.length) (hy : ys[k]? = some y) : ((ys.take k ++ xs.drop k).map Value.string).toArray.setIfInBounds k (.string y) = ((ys.take (k + 1) ++ xs.drop (k + 1)).map Value.string).toArray := by
  simp only [List.setIfInBounds_toArray]
  congr 1
  rw [← List.map_set]
  congr 1
  have h1 : (ys.take k).length = k := by simp; omega
  rw [List.set_append_right k y (by omega), h1, Nat.sub_self, List.drop_eq_getElem_cons hk, List.set_cons_zero, List.take_succ_eq_append_getElem (by omega : k < ys.length)]
  have : ys[k]'(by omega) = y := by
    have := List.getElem?_eq_getElem (l := ys) (i := k) (by omega)
    rw [this] at hy
    exact Option.some.inj hy
  rw [this]
  simp
set_option maxHeartbeats 4000000 in
set_option maxRecDepth 1000000 in
theorem mbox_Unquote.each (xs ys : List ByteArray) (s : ByteArray) (w : World) (hG : Amb w) (h0 : s.size < 4294967281) (hx : xs = Lib.splitB mbox_Unquote.sep 0 (Lib.countB s mbox_Unquote.sep) s)
    (hl : ys.length = xs.length) (hy : ∀ (i : Nat) x, xs[i]? = some x → ∃ y, ys[i]? = some y ∧ mbox_Unquote_1.f x = some y) (hj : (Lib.join (ys.map (·.data.toList)) mbox_Unquote.sep.data.toList).length ≤ 140737488355328) :
    Calls Tryz.prog 23 #[.string s, .func (.func 28) #[] #[]] w fun e w' => e = .returned (.string ⟨(Lib.join (ys.map (·.data.toList)) mbox_Unquote.sep.data.toList).toArray⟩) ∧ Below w.heap.size w w' := by
  obtain ⟨m, hm⟩ := hG.mx
  have hxl : xs.length = Lib.countB s mbox_Unquote.sep + 1 := by rw [hx]; exact Lib.splitB_all _ (by decide) 0 _ s rfl
  have hcl := Lib.countB_le mbox_Unquote.sep (by decide) s.size s (Nat.le_refl _)
  have hsp := Tryz.strings_Split s mbox_Unquote.sep m w h0 hm (by decide)
  rw [← hxl, ← hx] at hsp
  have hxn : xs.length ≤ 4294967282 := by omega
  have HY := Lib.hid hy
  have HJ := Lib.hid hj
  have HL := Lib.hid hl
  clear hy hj hx hxl hcl hm hl
  go_enter Tryz.func23, Tryz.ntmps23
  go_wp2_with (go_at_call 43; refine hsp.mono ?_; rintro e w' ⟨rfl, rfl⟩)
  clear hsp
  have hb0 : Below w.heap.size w (w.alloc (.cells (xs.map Value.string).toArray 9)) := below_alloc (Below.refl _ _) _
  have hk0 : (w.alloc (.cells (xs.map Value.string).toArray 9)).heap[w.heap.size]? = some (.cells ((ys.take 0 ++ xs.drop 0).map Value.string).toArray 9 (0, 0)) := by
    rw [List.take_zero, List.drop_zero, List.nil_append]
    exact blk_new _ _
  go_loopw [11] (fun i wr => ∃ k : Nat, k ≤ xs.length ∧ i = .int .i64 k ∧ wr.heap[w.heap.size]? = some (.cells ((ys.take k ++ xs.drop k).map Value.string).toArray 9 (0, 0)) ∧ Below w.heap.size w wr) (fun i _ => xs.length - (intOf i).toNat)
  case atStart => exact ⟨0, Nat.zero_le _, rfl, hk0, hb0⟩
  case round =>
    obtain ⟨k, hk, rfl, hblk, hbw⟩ := hrel
    clear hk0 hb0
    have hsz := blk_lt hblk
    by_cases hlt : k < xs.length
    · have hc : wr.cell? ⟨w.heap.size, k, none⟩ = some (.string (xs[k]'hlt)) := (blk_cell hblk k).trans (mbox_Unquote.mid_get HL.out hlt)
      obtain ⟨y, hy1, hy2⟩ := HY.out k _ (List.getElem?_eq_getElem hlt)
      have HY1 := Lib.hid hy1
      have HB := Lib.hid hblk
      clear hy1 hblk
      go_wp2_with fail
      go_at_call 28
      refine (mbox_Unquote_1.calls _ _ _ hy2).mono ?_
      rintro e w1 ⟨rfl, hd⟩
      have hb1 : Below wr.heap.size wr w1 := by first | exact hd | exact hd.below
      have hblk1 := blk_below HB.out hb1
      have hc1 : w1.cell? ⟨w.heap.size, k, none⟩ = some (.string (xs[k]'hlt)) := (blk_cell hblk1 k).trans (mbox_Unquote.mid_get HL.out hlt)
      have hf1 := blk_frozen hblk1 k
      have HB1 := Lib.hid hblk1
      have HD := Lib.hid hb1
      clear hd hblk1 hb1 hy2
      go_wp2
      go_roundw
      case rel => exact ⟨k + 1, by omega, by go_num, blk_put HB1.out k _ (mbox_Unquote.mid_set HL.out hlt HY1.out), below_set (below_step hbw HD.out) (Nat.le_refl _)⟩
      case measure => simp [intOf]; omega
    · obtain rfl : xs.length = k := by omega
      have hcs : ∀ (j : Nat) x, ys[j]? = some x → wr.cell? ⟨w.heap.size, 0 + j, none⟩ = some (.string x) := by
        intro j x hx
        rw [Nat.zero_add, blk_cell hblk j, List.take_of_length_le (by rw [HL.out]; exact Nat.le_refl _), List.drop_length, List.append_nil]
        simp [hx]
      have HC := Lib.hid hcs
      clear hcs hblk
      go_wp2_with fail
      go_at_call 44
      rw [← HL.out]
      refine (Tryz.strings_Join w.heap.size 0 ys.length ys mbox_Unquote.sep wr HC.out hsz (by rw [HL.out]; omega) (Nat.le_refl _) HJ.out).mono ?_
      rintro e w1 ⟨rfl, hb1⟩
      have HD := Lib.hid hb1
      clear hb1
      go_wp2
      go_ret
      exact ⟨rfl, below_step hbw HD.out⟩
set_option maxRecDepth 100000 in
theorem mbox_Unquote.calls (a0 : ByteArray) (r : ByteArray) (w : World) (hG : Amb w) (h : mbox_Unquote.f a0 = some r) :
    Calls Tryz.prog 12 #[.string a0] w fun e w' => e = .returned (.string r) ∧ Below w.heap.size w w' := by
 unfold mbox_Unquote.f at h
 by_cases h0 : a0.size < 4294967281
 ·rw [if_pos h0] at h
  obtain ⟨ys, hm, h⟩ := Option.bind_eq_some_iff.mp h
  by_cases hj : (Lib.join (ys.map (·.data.toList)) mbox_Unquote.sep.data.toList).length ≤ 140737488355328
  ·rw [if_pos hj] at h
   obtain rfl := Option.some.inj h
   obtain ⟨hl, hy⟩ := mbox_Unquote.mapO_is hm
   have c := mbox_Unquote.each _ ys a0 w hG h0 rfl hl hy hj
   go_enter Tryz.func12, Tryz.ntmps12
   go_wp2_with (go_at_call 23; refine c.mono ?_; rintro e w1 ⟨rfl, hb⟩)
   go_ret
   exact ⟨rfl, hb⟩
  ·rw [if_neg hj] at h
   cases h
 ·rw [if_neg h0] at h
  cases h

/-! ### addr_labelled: function 145 -/
def addr_labelled.f (a0 : Int) : Option (Bool) := if a0 ≥ 97 then (if a0 ≤ 122 then (some true) else (if a0 ≥ 65 then (if a0 ≤ 90 then (some true) else (if a0 ≥ 48 then (if a0 ≤ 57 then (some true) else (some (a0 == 45))) else (some (a0 == 45)))) else (if a0 ≥ 48 then (if a0 ≤ 57 then (some true) else (some (a0 == 45))) else (some (a0 == 45))))) else (if a0 ≥ 65 then (if a0 ≤ 90 then (some true) else (if a0 ≥ 48 then (if a0 ≤ 57 then (some true) else (some (a0 == 45))) else (some (a0 == 45)))) else (if a0 ≥ 48 then (if a0 ≤ 57 then (some true) else (some (a0 == 45))) else (some (a0 == 45))))
set_option maxHeartbeats 8000000 in
set_option maxRecDepth 100000 in
theorem addr_labelled.calls (a0 : Int) (r : Bool) (w : World) (h : addr_labelled.f a0 = some r) :
    Calls Tryz.prog 145 #[.int .u8 a0] w fun e w' => e = .returned (.bool r) ∧ Drawn0 w w' := by
 unfold addr_labelled.f at h
 have H := h
 clear h
 by_cases c2 : a0 ≥ 97
 ·rw [if_pos c2] at H
  have c2b0 : decide (97 ≤ a0) = true := decide_eq_true c2
  clear c2
  by_cases c3 : a0 ≤ 122
  ·rw [if_pos c3] at H
   have c3b0 := decide_eq_true c3
   clear c3
   obtain rfl := Option.some.inj H
   go_enter Tryz.func145, Tryz.ntmps145
   go_wp2
   go_ret
   exact ⟨eqs, drw⟩
  ·rw [if_neg c3] at H
   have c3b0 := decide_eq_false c3
   clear c3
   by_cases c4 : a0 ≥ 65
   ·rw [if_pos c4] at H
    have c4b0 : decide (65 ≤ a0) = true := decide_eq_true c4
    clear c4
    by_cases c5 : a0 ≤ 90
    ·rw [if_pos c5] at H
     have c5b0 := decide_eq_true c5
     clear c5
     obtain rfl := Option.some.inj H
     go_enter Tryz.func145, Tryz.ntmps145
     go_wp2
     go_ret
     exact ⟨eqs, drw⟩
    ·rw [if_neg c5] at H
     have c5b0 := decide_eq_false c5
     clear c5
     by_cases c6 : a0 ≥ 48
     ·rw [if_pos c6] at H
      have c6b0 : decide (48 ≤ a0) = true := decide_eq_true c6
      clear c6
      by_cases c7 : a0 ≤ 57
      ·rw [if_pos c7] at H
       have c7b0 := decide_eq_true c7
       clear c7
       obtain rfl := Option.some.inj H
       go_enter Tryz.func145, Tryz.ntmps145
       go_wp2
       go_ret
       exact ⟨eqs, drw⟩
      ·rw [if_neg c7] at H
       have c7b0 := decide_eq_false c7
       clear c7
       obtain rfl := Option.some.inj H
       go_enter Tryz.func145, Tryz.ntmps145
       go_wp2
       go_ret
       exact ⟨eqs, drw⟩
     ·rw [if_neg c6] at H
      have c6b0 : decide (48 ≤ a0) = false := decide_eq_false c6
      clear c6
      obtain rfl := Option.some.inj H
      go_enter Tryz.func145, Tryz.ntmps145
      go_wp2
      go_ret
      exact ⟨eqs, drw⟩
   ·rw [if_neg c4] at H
    have c4b0 : decide (65 ≤ a0) = false := decide_eq_false c4
    clear c4
    by_cases c8 : a0 ≥ 48
    ·rw [if_pos c8] at H
     have c8b0 : decide (48 ≤ a0) = true := decide_eq_true c8
     clear c8
     by_cases c9 : a0 ≤ 57
     ·rw [if_pos c9] at H
      have c9b0 := decide_eq_true c9
      clear c9
      obtain rfl := Option.some.inj H
      go_enter Tryz.func145, Tryz.ntmps145
      go_wp2
      go_ret
      exact ⟨eqs, drw⟩
     ·rw [if_neg c9] at H
      have c9b0 := decide_eq_false c9
      clear c9
      obtain rfl := Option.some.inj H
      go_enter Tryz.func145, Tryz.ntmps145
      go_wp2
      go_ret
      exact ⟨eqs, drw⟩
    ·rw [if_neg c8] at H
     have c8b0 : decide (48 ≤ a0) = false := decide_eq_false c8
     clear c8
     obtain rfl := Option.some.inj H
     go_enter Tryz.func145, Tryz.ntmps145
     go_wp2
     go_ret
     exact ⟨eqs, drw⟩
 ·rw [if_neg c2] at H
  have c2b0 : decide (97 ≤ a0) = false := decide_eq_false c2
  clear c2
  by_cases c10 : a0 ≥ 65
  ·rw [if_pos c10] at H
   have c10b0 : decide (65 ≤ a0) = true := decide_eq_true c10
   clear c10
   by_cases c11 : a0 ≤ 90
   ·rw [if_pos c11] at H
    have c11b0 := decide_eq_true c11
    clear c11
    obtain rfl := Option.some.inj H
    go_enter Tryz.func145, Tryz.ntmps145
    go_wp2
    go_ret
    exact ⟨eqs, drw⟩
   ·rw [if_neg c11] at H
    have c11b0 := decide_eq_false c11
    clear c11
    by_cases c12 : a0 ≥ 48
    ·rw [if_pos c12] at H
     have c12b0 : decide (48 ≤ a0) = true := decide_eq_true c12
     clear c12
     by_cases c13 : a0 ≤ 57
     ·rw [if_pos c13] at H
      have c13b0 := decide_eq_true c13
      clear c13
      obtain rfl := Option.some.inj H
      go_enter Tryz.func145, Tryz.ntmps145
      go_wp2
      go_ret
      exact ⟨eqs, drw⟩
     ·rw [if_neg c13] at H
      have c13b0 := decide_eq_false c13
      clear c13
      obtain rfl := Option.some.inj H
      go_enter Tryz.func145, Tryz.ntmps145
      go_wp2
      go_ret
      exact ⟨eqs, drw⟩
    ·rw [if_neg c12] at H
     have c12b0 : decide (48 ≤ a0) = false := decide_eq_false c12
     clear c12
     obtain rfl := Option.some.inj H
     go_enter Tryz.func145, Tryz.ntmps145
     go_wp2
     go_ret
     exact ⟨eqs, drw⟩
  ·rw [if_neg c10] at H
   have c10b0 : decide (65 ≤ a0) = false := decide_eq_false c10
   clear c10
   by_cases c14 : a0 ≥ 48
   ·rw [if_pos c14] at H
    have c14b0 : decide (48 ≤ a0) = true := decide_eq_true c14
    clear c14
    by_cases c15 : a0 ≤ 57
    ·rw [if_pos c15] at H
     have c15b0 := decide_eq_true c15
     clear c15
     obtain rfl := Option.some.inj H
     go_enter Tryz.func145, Tryz.ntmps145
     go_wp2
     go_ret
     exact ⟨eqs, drw⟩
    ·rw [if_neg c15] at H
     have c15b0 := decide_eq_false c15
     clear c15
     obtain rfl := Option.some.inj H
     go_enter Tryz.func145, Tryz.ntmps145
     go_wp2
     go_ret
     exact ⟨eqs, drw⟩
   ·rw [if_neg c14] at H
    have c14b0 : decide (48 ≤ a0) = false := decide_eq_false c14
    clear c14
    obtain rfl := Option.some.inj H
    go_enter Tryz.func145, Tryz.ntmps145
    go_wp2
    go_ret
    exact ⟨eqs, drw⟩

/-! ### addr_label: function 120 -/
def addr_label.l0 : Nat → ByteArray → Int → Int → Option (Bool)
  | 0, _, _, _ => none
  | k + 1, x0, x5, x6 => if x6 < x5 then (if 0 ≤ x6 then (if x6 < (x0.size : Int) then ((addr_labelled.f (bt x0 x6)).bind fun t182 => (if t182 = true then (addr_label.l0 k x0 x5 (wrap64 (x6 + 1))) else (some false))) else (none)) else (none)) else (if x0.toList = ([] : List UInt8) then (some false) else (if 0 < (x0.size : Int) then (if (bt x0 0) = 45 then (some false) else (if 0 ≤ (wrap64 ((x0.size : Int) - 1)) then (if (wrap64 ((x0.size : Int) - 1)) < (x0.size : Int) then (some ((bt x0 (wrap64 ((x0.size : Int) - 1))) != 45)) else (none)) else (none))) else (none)))
def addr_label.f (k : Nat) (a0 : ByteArray) : Option (Bool) := addr_label.l0 k a0 (a0.size : Int) 0
theorem addr_label.mono_l : ∀ k, (∀ y0 y1 y2, LeO (addr_label.l0 k y0 y1 y2) (addr_label.l0 (k + 1) y0 y1 y2))
  | 0 => fun _ _ _ r h => by simp [addr_label.l0] at h
  | k + 1 => by
    have ih0 := addr_label.mono_l k
    · intro y0 y1 y2
      unfold addr_label.l0
      repeat' first | (with_reducible first | exact ih0 _ _ _ | exact LeO.refl _ | exact LeO.none _ | refine LeO.ite ?_ ?_ | refine LeO.bind ?_ (fun _ => ?_)) | exact ih0 _ _ _ | exact LeO.none _ | refine LeO.ite ?_ ?_ | refine LeO.bind ?_ (fun _ => ?_)
theorem addr_label.mono : ∀ a0 k, LeO (addr_label.f k a0) (addr_label.f (k + 1) a0) := by
  intro a0 k
  have ih0 := addr_label.mono_l k
  unfold addr_label.f
  repeat' first | (with_reducible first | exact ih0 _ _ _ | exact LeO.refl _ | exact LeO.none _ | refine LeO.ite ?_ ?_ | refine LeO.bind ?_ (fun _ => ?_)) | exact ih0 _ _ _ | exact LeO.none _ | refine LeO.ite ?_ ?_ | refine LeO.bind ?_ (fun _ => ?_)
set_option maxHeartbeats 8000000 in
set_option maxRecDepth 100000 in
theorem addr_label.calls (k : Nat) (a0 : ByteArray) (r : Bool) (w : World) (h : addr_label.f k a0 = some r) :
    Calls Tryz.prog 120 #[.string a0] w fun e w' => e = .returned (.bool r) ∧ Drawn0 w w' := by
 unfold addr_label.f at h
 have H := h
 clear h
 have H' := Aside0.mk H
 clear H
 go_enter Tryz.func120, Tryz.ntmps120
 go_wp2
 go_loopg [6] k (fun kq v6 w' => ∃ (x6_1 : Int), v6 = .int .i64 x6_1 ∧ Aside0 (addr_label.l0 kq a0 (a0.size : Int) x6_1 = some r) ∧ Aside0 (kq ≤ k) ∧ Drawn0 w w')
 case atStart => exact ⟨(0), (by first | rfl | (simp; done) | (simp [*]; done) | (simp; exact (by intro l_; cases l_ <;> rfl : ∀ l_ : List UInt8, l_.isEmpty = !(l_ != [])) _)), H', ⟨Nat.le_refl _⟩, drw⟩
 case round =>
  clear H'
  try clear c1
  obtain ⟨x6_1, rfl, HA, HK1, ⟨m1, rfl⟩⟩ := hrel
  cases gk with
  | zero => exact absurd HA.out (by simp [addr_label.l0])
  | succ k1 =>
   have H := HA.out
   clear HA
   simp only [addr_label.l0] at H
   by_cases c2 : x6_1 < (a0.size : Int)
   ·rw [if_pos c2] at H
    have c2b0 := decide_eq_true c2
    clear c2
    obtain ⟨c3, H⟩ := iteS H
    have c3b0 := decide_eq_true c3
    clear c3
    obtain ⟨c4, H⟩ := iteS H
    have c4b0 := decide_eq_true c4
    clear c4
    replace H := Option.bind_eq_some_iff.mp H
    obtain ⟨t182, A60, H⟩ := H
    try dsimp only at H
    have A6 := Aside0.mk A60
    clear A60
    by_cases c7 : t182 = true
    ·subst c7
     rw [if_pos rfl] at H
     have H' := Aside0.mk H
     clear H
     have p5 : 0 ≤ (x6_1 : Int) := od_
     have q5 : x6_1 < (a0.size : Int) := od_
     have hx5 := bt_at a0 x6_1
     replace p5 := eq_true p5
     replace q5 := eq_true q5
     go_wp2_with (first | ((with_reducible refine gc 145 rfl ?_); refine cl_ (some 12) Tryz.func145 (addr_labelled.calls (bt a0 x6_1) true _ A6.out) ?_; rintro w' ⟨nd, rfl⟩))
     go_roundg k1
     case measure => have := HK1.out; omega
     case rel => exact ⟨(wrap64 (x6_1 + 1)), (by first | rfl | (simp; done) | (simp [*]; done) | (simp; exact (by intro l_; cases l_ <;> rfl : ∀ l_ : List UInt8, l_.isEmpty = !(l_ != [])) _)), H', ⟨by have := HK1.out; omega⟩, drw⟩
    ·replace c7 := Bool.eq_false_iff.mpr c7
     subst c7
     rw [if_neg nft] at H
     obtain rfl := Option.some.inj H
     have p5 : 0 ≤ (x6_1 : Int) := od_
     have q5 : x6_1 < (a0.size : Int) := od_
     have hx5 := bt_at a0 x6_1
     replace p5 := eq_true p5
     replace q5 := eq_true q5
     go_wp2_with (first | ((with_reducible refine gc 145 rfl ?_); refine cl_ (some 12) Tryz.func145 (addr_labelled.calls (bt a0 x6_1) false _ A6.out) ?_; rintro w' ⟨nd, rfl⟩))
     go_ret
     exact ⟨by first | rfl | (simp; done) | (simp [*]; done) | (simp; exact (by intro l_; cases l_ <;> rfl : ∀ l_ : List UInt8, l_.isEmpty = !(l_ != [])) _), drw⟩
   ·rw [if_neg c2] at H
    have c2b0 := decide_eq_false c2
    clear c2
    by_cases c8 : a0.toList = ([] : List UInt8)
    ·rw [if_pos c8] at H
     have c8b0 := beq_iff_eq.mpr c8
     have c8b1 := bne_eq_false_iff_eq.mpr c8
     clear c8
     obtain rfl := Option.some.inj H
     go_wp2
     go_ret
     exact ⟨by first | rfl | (simp; done) | (simp [*]; done) | (simp; exact (by intro l_; cases l_ <;> rfl : ∀ l_ : List UInt8, l_.isEmpty = !(l_ != [])) _), drw⟩
    ·rw [if_neg c8] at H
     have c8b0 := beq_eq_false_iff_ne.mpr c8
     have c8b1 := bne_iff_ne.mpr c8
     obtain ⟨c9, H⟩ := iteS H
     have c9b0 := decide_eq_true c9
     have c9b1 : decide (0 < a0.size) = true := decide_eq_true (by omega)
     clear c9
     by_cases c11 : (bt a0 0) = 45
     ·rw [if_pos c11] at H
      have c11b0 := beq_iff_eq.mpr c11
      have c11b1 := bne_eq_false_iff_eq.mpr c11
      clear c11
      obtain rfl := Option.some.inj H
      have p10 : 0 ≤ (0 : Int) := (by omega)
      have q10 : 0 < a0.size := (by have : (0 : Int) < (a0.size : Int) := od_; omega)
      have hx10 : ∀ h : 0 < a0.size, ((a0[0]'h).toNat : Int) = bt a0 0 := bt_at a0 0
      clear p10
      have qi10 : (0 < (a0.size : Int)) = True := eq_true (od_)
      replace q10 := eq_true q10
      go_wp2
      go_ret
      exact ⟨by first | rfl | (simp; done) | (simp [*]; done) | (simp; exact (by intro l_; cases l_ <;> rfl : ∀ l_ : List UInt8, l_.isEmpty = !(l_ != [])) _), drw⟩
     ·rw [if_neg c11] at H
      have c11b0 := beq_eq_false_iff_ne.mpr c11
      have c11b1 := bne_iff_ne.mpr c11
      obtain ⟨ji12, hji12⟩ : ∃ j_ : Int, (wrap64 ((a0.size : Int) - 1)) = j_ := ⟨_, rfl⟩
      replace H : (if 0 ≤ (ji12) then (if (ji12) < (a0.size : Int) then (some ((bt a0 (ji12)) != 45)) else (none)) else (none)) = some r := by first | (rw [hji12] at H; exact H) | (simp only [hji12] at H ⊢; exact H)
      have hji12w : (IntKind.i64.wrap ((a0.size : Int) - 1)) = ji12 := (i64_w _).trans hji12
      obtain ⟨c13, H⟩ := iteS H
      have c13b0 := decide_eq_true c13
      clear c13
      obtain ⟨c14, H⟩ := iteS H
      have c14b0 := decide_eq_true c14
      clear c14
      obtain rfl := Option.some.inj H
      have p10 : 0 ≤ (0 : Int) := (by omega)
      have q10 : 0 < a0.size := (by have : (0 : Int) < (a0.size : Int) := od_; omega)
      have hx10 : ∀ h : 0 < a0.size, ((a0[0]'h).toNat : Int) = bt a0 0 := bt_at a0 0
      clear p10
      have qi10 : (0 < (a0.size : Int)) = True := eq_true (od_)
      replace q10 := eq_true q10
      have p15 : 0 ≤ ((ji12) : Int) := od_
      have q15 : (ji12) < (a0.size : Int) := od_
      have hx15 := bt_at a0 (ji12)
      replace p15 := eq_true p15
      replace q15 := eq_true q15
      go_wp2
      go_ret
      exact ⟨by first | rfl | (simp; done) | (simp only [← hji12] <;> (first | rfl | simp)) | (simp [*]; done), drw⟩

/-! ### addr_domain: function 93 -/
/-- Why parts are no domain: the first that is no label; else whether they are too long. -/
def addr_domain.g (f : ByteArray → Option Bool) : Bool → List ByteArray → Option Int
  | lg, [] => some (if lg = true then 2 else 0)
  | lg, x :: xs => (f x).bind fun b => if b = true then addr_domain.g f (lg || decide (63 < x.size)) xs else some 130
theorem addr_domain.g_mono (f g : ByteArray → Option Bool) (h : ∀ x, LeO (f x) (g x)) : ∀ l lg, LeO (addr_domain.g f lg l) (addr_domain.g g lg l)
  | [], _ => LeO.refl _
  | x :: l, lg => LeO.bind (h x) (fun b => by split <;> first | exact addr_domain.g_mono f g h l _ | exact LeO.refl _)
section
open Go Go.Shelf Go.Proofs.YtcpmoolpbeeedaaGreatDoorW.SeqC Sp
attribute [local go_sem] Oper.semAt_some
set_option maxHeartbeats 4000000 in
theorem addr_domain.walk (fA : ByteArray → Option Bool) (hA : ∀ x r w, fA x = some r → Calls Tryz.prog 120 #[.string x] w fun e w' => e = .returned (.bool r) ∧ Drawn0 w w')
    (a0 : ByteArray) (r : Int) (w : World) (hsz : a0.size ≤ 140737488355327) (h : addr_domain.g fA (decide (253 < a0.size)) (Sp.parts 46 a0) = some r) :
    Calls Tryz.prog 93 #[.string a0] w fun e w' => e = .returned (.int .i64 r) ∧ Below w.heap.size w w' := by
  refine (callsIn_wide (n := 3)).1 ?_
  refine callsIn_of_wp_marks Tryz.func93 rfl trivial ?_ rfl
  simp only [Tryz.ntmps93, List.size_toArray, List.length_cons, List.length_nil, Nat.reduceAdd, Nat.reduceSub, Array.replicate_succ, Array.replicate_zero, List.push_toArray, List.append_toArray, List.nil_append, List.cons_append]
  obtain ⟨lg0, hl0⟩ : ∃ b : Bool, decide (253 < (a0.size : Int)) = b := ⟨_, rfl⟩
  have hl1 : decide (253 < a0.size) = lg0 := by rw [← hl0]; apply decide_eq_decide.2; omega
  rw [hl1] at h
  gi_wp2_with (refine ⟨trivial, (callsIn_wide.2 (splitSeq_in 3 a0 ⟨#[46]⟩ _)).mono ?_⟩; rintro e w' ⟨rfl, rfl⟩)
  have c0 := World.alloc_heap_new w (.cells #[.int .i64 0] 40)
  have c1 := World.alloc_heap_new (w.alloc (.cells #[.int .i64 0] 40)) (.cells #[.bool lg0] 4)
  obtain ⟨t0, t1, t2⟩ := three ((w.alloc (.cells #[.int .i64 0] 40)).alloc (.cells #[.bool lg0] 4)) (.cells #[.string a0] 9) (.cells #[.string ⟨#[46]⟩] 9) (.cells #[.int .i64 0] 3)
  simp only [World.size_alloc] at c1 t0 t1 t2
  have hB0 : Below w.heap.size w (((((w.alloc (.cells #[.int .i64 0] 40)).alloc (.cells #[.bool lg0] 4)).alloc (.cells #[.string a0] 9)).alloc (.cells #[.string ⟨#[46]⟩] 9)).alloc (.cells #[.int .i64 0] 3)) :=
    (((((Below.refl _ w).alloc (Nat.le_refl _) _).alloc (by simp) _).alloc (by simp <;> omega) _).alloc (by simp <;> omega) _).alloc (by simp <;> omega) _
  refine wpIn_range_cell rfl (by decide) (gf := 138) (lb := #[.pointer (some ⟨w.heap.size + 1 + 1 + 1, 0, none⟩), .pointer (some ⟨w.heap.size + 1 + 1, 0, none⟩), .pointer (some ⟨w.heap.size + 1 + 1 + 2, 0, none⟩)]) rfl trivial (enters_of Tryz.func138 (by kernel_rfl) rfl)
    (splitIt 2 a0 hsz 46 (w.heap.size + 1 + 1) _ (by simp) t0 t1 t2) (by simp) ((blk_cell t0 0).trans rfl) kp3_t (kp3_b (by simp)) (fun _ => rfl)
    (fun pre W => ∃ lg, (∀ ys, pre ++ ys = Sp.parts 46 a0 → addr_domain.g fA lg ys = some r) ∧ W.heap[w.heap.size]? = some (.cells #[.int .i64 0] 40 (0, 0)) ∧ W.heap[w.heap.size + 1]? = some (.cells #[.bool lg] 4 (0, 0)) ∧ Below w.heap.size w W)
    (fun c pre W => c = .ret ∧ r = 130 ∧ W.heap[w.heap.size]? = some (.cells #[.int .i64 130] 40 (0, 0)) ∧ Below w.heap.size w W)
    (fun s A B row hs hg hr => by
      obtain ⟨lg, h1, h2, h3, h4⟩ := hs
      exact ⟨lg, h1, blk_own h2 hg hr, blk_own h3 hg hr, ownFrom_below (Nat.le_refl _) (by simp <;> omega) s A B row h4 hg hr⟩)
    (fun c s A B row hs hg hr => ⟨hs.1, hs.2.1, blk_own hs.2.2.1 hg hr, ownFrom_below (Nat.le_refl _) (by simp <;> omega) s A B row hs.2.2.2 hg hr⟩)
    (fun s W v hs => by
      obtain ⟨lg, h1, h2, h3, h4⟩ := hs
      exact ⟨lg, h1, (Below.heap_setCell W _ v _ (by simp <;> omega)).trans h2, (Below.heap_setCell W _ v _ (by simp)).trans h3, h4.setCell (by simp <;> omega) _⟩)
    ⟨lg0, fun ys hys => by rw [show ys = Sp.parts 46 a0 from hys]; exact h, (Below.heap_alloc _ _ _ (by simp <;> omega)).trans ((Below.heap_alloc _ _ _ (by simp <;> omega)).trans ((Below.heap_alloc _ _ _ (by simp <;> omega)).trans ((Below.heap_alloc _ _ _ (by simp)).trans c0))),
      (Below.heap_alloc _ _ _ (by simp <;> omega)).trans ((Below.heap_alloc _ _ _ (by simp <;> omega)).trans ((Below.heap_alloc _ _ _ (by simp)).trans c1)), hB0⟩
    (fun x => { tmps := #[.string a0, undef, .pointer (some ⟨w.heap.size, 0, none⟩), .pointer (some ⟨w.heap.size + 1, 0, none⟩), .string x, .string a0, .int .i64 a0.size, .bool lg0, .string a0, .func (.func 138) #[] #[.pointer (some ⟨w.heap.size + 1 + 1 + 1, 0, none⟩), .pointer (some ⟨w.heap.size + 1 + 1, 0, none⟩), .pointer (some ⟨w.heap.size + 1 + 1 + 2, 0, none⟩)], .string x, undef, undef, undef, undef, undef, undef, undef, undef, undef, undef], defers := [] }) ?assign ?body ?done ?stop
  case assign =>
    intro l x W K hK
    gi_wp2
    exact hK
  case body =>
    rintro l pre x W ⟨lg, hp, hcr, hcl, hB⟩ ⟨ys, hys⟩
    have hx := hp (x :: ys) (by rw [← hys]; simp)
    unfold addr_domain.g at hx
    obtain ⟨bx, hbx, hx⟩ := Option.bind_eq_some_iff.mp hx
    have hcc : W.cell? ⟨w.heap.size, 0, none⟩ = some (.int .i64 0) := (blk_cell hcr 0).trans rfl
    have hff : W.frozen? ⟨w.heap.size, 0, none⟩ = false := blk_frozen hcr 0
    have hc1 : W.cell? ⟨w.heap.size + 1, 0, none⟩ = some (.bool lg) := (blk_cell hcl 0).trans rfl
    have hf1 : W.frozen? ⟨w.heap.size + 1, 0, none⟩ = false := blk_frozen hcl 0
    cases bx with
    | false =>
      obtain rfl : (130 : Int) = r := by simpa using hx
      gi_wp2_with (refine ⟨trivial, (CallsIn.inRound l (callsIn_wide.2 (hA x false _ hbx))).mono ?_⟩; rintro e w' ⟨rfl, ⟨nd, rfl⟩⟩)
      exact ⟨(ko_drewN W nd).trans (KeepsOthers.setCell _ _ _), rfl, one_setCell (w := W.drewN nd) (u := .int .i64 130) hcr, Below.setCell (pw_below_drewN hB nd) (p := ⟨w.heap.size, 0, none⟩) (by simp) _⟩
    | true =>
      rw [if_pos rfl] at hx
      have hI : ∀ (nd : Nat) (b2 : Bool), (lg || decide (63 < x.size)) = b2 → ownPostK (Kp3 (w.heap.size + 1 + 1)) (fun pre W => ∃ lg, (∀ ys, pre ++ ys = Sp.parts 46 a0 → addr_domain.g fA lg ys = some r) ∧ W.heap[w.heap.size]? = some (.cells #[.int .i64 0] 40 (0, 0)) ∧ W.heap[w.heap.size + 1]? = some (.cells #[.bool lg] 4 (0, 0)) ∧ Below w.heap.size w W)
          (fun c pre W => c = .ret ∧ r = 130 ∧ W.heap[w.heap.size]? = some (.cells #[.int .i64 130] 40 (0, 0)) ∧ Below w.heap.size w W) (pre ++ [x]) W .normal { tmps := #[], defers := [] } ((W.drewN nd).setCell ⟨w.heap.size + 1, 0, none⟩ (.bool b2)) := by
        intro nd b2 hb2
        refine ⟨(ko_drewN W nd).trans (KeepsOthers.setCell _ _ _), fun k h1 h2 => Below.heap_setCell _ _ _ _ (by simp <;> omega), b2, fun ys2 h2 => ?_, (Below.heap_setCell _ _ _ _ (by simp)).trans hcr, one_setCell (w := W.drewN nd) (u := .bool b2) hcl, Below.setCell (pw_below_drewN hB nd) (p := ⟨w.heap.size + 1, 0, none⟩) (by simp) _⟩
        have e : ys2 = ys := by rw [← hys] at h2; exact List.append_cancel_left h2
        rw [e, ← hb2]; exact hx
      cases lg with
      | true =>
        gi_wp2_with (refine ⟨trivial, (CallsIn.inRound l (callsIn_wide.2 (hA x true _ hbx))).mono ?_⟩; rintro e w' ⟨rfl, ⟨nd, rfl⟩⟩)
        exact hI nd true rfl
      | false =>
        obtain ⟨b2, hb2⟩ : ∃ b2 : Bool, decide (63 < (x.size : Int)) = b2 := ⟨_, rfl⟩
        have hb3 : (false || decide (63 < x.size)) = b2 := by rw [← hb2, Bool.false_or]; apply decide_eq_decide.2; omega
        gi_wp2_with (refine ⟨trivial, (CallsIn.inRound l (callsIn_wide.2 (hA x true _ hbx))).mono ?_⟩; rintro e w' ⟨rfl, ⟨nd, rfl⟩⟩)
        exact hI nd b2 hb3
  case done =>
    rintro D ys W hD rfl ⟨lg, hp, hcr, hcl, hB⟩ hK
    have hr := hp [] (by simp)
    have hcc : W.cell? ⟨w.heap.size, 0, none⟩ = some (.int .i64 0) := (blk_cell hcr 0).trans rfl
    have hff : W.frozen? ⟨w.heap.size, 0, none⟩ = false := blk_frozen hcr 0
    have hc1 : W.cell? ⟨w.heap.size + 1, 0, none⟩ = some (.bool lg) := (blk_cell hcl 0).trans rfl
    cases lg with
    | true =>
      obtain rfl : (2 : Int) = r := by simpa [addr_domain.g] using hr
      gi_wp2
      have hK' := (KeepsOthers.setCell W ⟨w.heap.size, 0, none⟩ (.int .i64 2)).same D _ hK rfl
      refine ⟨by simp, .inl ⟨_, _, rfl, run_takeDeferred hK', ?_⟩⟩
      have hc5 := cell_kept ((blk_cell (one_setCell (u := .int .i64 2) hcr) 0).trans rfl) (grownBy_putObj' _ D (.deferred none)) (fun r e => by cases e; exact ⟨_, hK', rfl⟩)
      refine ⟨.int .i64 2, ?_, rfl, (hB.setCell (p := ⟨w.heap.size, 0, none⟩) (by simp) _).trans (belowK_b (w := w) (Nat.le_refl _) _ D _ _ (by simp at hD; omega) hK' rfl rfl)⟩
      simp [results, Tryz.f93, go_sem, hc5]
    | false =>
      obtain rfl : (0 : Int) = r := by simpa [addr_domain.g] using hr
      gi_wp2
      have hK' := (KeepsOthers.setCell W ⟨w.heap.size, 0, none⟩ (.int .i64 0)).same D _ hK rfl
      refine ⟨by simp, .inl ⟨_, _, rfl, run_takeDeferred hK', ?_⟩⟩
      have hc5 := cell_kept ((blk_cell (one_setCell (u := .int .i64 0) hcr) 0).trans rfl) (grownBy_putObj' _ D (.deferred none)) (fun r e => by cases e; exact ⟨_, hK', rfl⟩)
      refine ⟨.int .i64 0, ?_, rfl, (hB.setCell (p := ⟨w.heap.size, 0, none⟩) (by simp) _).trans (belowK_b (w := w) (Nat.le_refl _) _ D _ _ (by simp at hD; omega) hK' rfl rfl)⟩
      simp [results, Tryz.f93, go_sem, hc5]
  case stop =>
    rintro D c pre W hD hpre ⟨rfl, rfl, hcr, hB⟩ hK
    gi_wp2
    refine ⟨by simp, .inl ⟨_, _, rfl, run_takeDeferred hK, ?_⟩⟩
    have hc5 := cell_kept ((blk_cell hcr 0).trans rfl) (grownBy_putObj' _ D (.deferred none)) (fun r e => by cases e; exact ⟨_, hK, rfl⟩)
    refine ⟨.int .i64 130, ?_, rfl, hB.trans (belowK_b (w := w) (Nat.le_refl _) W D _ _ (by simp at hD; omega) hK rfl rfl)⟩
    simp [results, Tryz.f93, go_sem, hc5]
end
def addr_domain.f (k : Nat) (a0 : ByteArray) : Option (Int) := if a0.size ≤ 140737488355327 then (addr_domain.g (addr_label.f k) (decide (253 < a0.size)) (Sp.parts 46 a0)) else none
theorem addr_domain.mono : ∀ a0 k, LeO (addr_domain.f k a0) (addr_domain.f (k + 1) a0) := by
  intro a0 k
  unfold addr_domain.f
  exact LeO.ite (addr_domain.g_mono _ _ (fun x => addr_label.mono x k) _ _) (LeO.none _)
theorem addr_domain.calls (k : Nat) (a0 : ByteArray) (r : Int) (w : World) (h : addr_domain.f k a0 = some r) :
    Calls Tryz.prog 93 #[.string a0] w fun e w' => e = .returned (.int .i64 r) ∧ Below w.heap.size w w' := by
 unfold addr_domain.f at h
 by_cases h0 : a0.size ≤ 140737488355327
 ·rw [if_pos h0] at h
  exact addr_domain.walk (addr_label.f k) (fun x r w hx => addr_label.calls k x r w hx) a0 r w h0 h
 ·rw [if_neg h0] at h; cases h

/-! ### glyph_plain: function 121 -/
def glyph_plain.f (a0 : Int) : Option (Bool) := if a0 ≥ 32 then (some (decide (a0 ≤ 126))) else (some false)
set_option maxHeartbeats 8000000 in
set_option maxRecDepth 100000 in
theorem glyph_plain.calls (a0 : Int) (r : Bool) (w : World) (h : glyph_plain.f a0 = some r) :
    Calls Tryz.prog 121 #[.int .i32 a0] w fun e w' => e = .returned (.bool r) ∧ Drawn0 w w' := by
 unfold glyph_plain.f at h
 have H := h
 clear h
 by_cases c2 : a0 ≥ 32
 ·rw [if_pos c2] at H
  have c2b0 : decide (32 ≤ a0) = true := decide_eq_true c2
  clear c2
  obtain rfl := Option.some.inj H
  go_enter Tryz.func121, Tryz.ntmps121
  go_wp2
  go_ret
  exact ⟨eqs, drw⟩
 ·rw [if_neg c2] at H
  have c2b0 : decide (32 ≤ a0) = false := decide_eq_false c2
  clear c2
  obtain rfl := Option.some.inj H
  go_enter Tryz.func121, Tryz.ntmps121
  go_wp2
  go_ret
  exact ⟨eqs, drw⟩

/-! ### glyph_Plain: function 94 -/
/-- Are all of a text's bytes plain? -/
def glyph_Plain.g (s : ByteArray) : Bool := s.data.toList.all fun c => decide (32 ≤ c.toNat) && decide (c.toNat ≤ 126)
def glyph_Plain.f (a0 : ByteArray) : Option (Bool) := if a0.size ≤ 140737488355327 then (some (glyph_Plain.g a0)) else none
theorem glyph_Plain.no (s : ByteArray) (i : Nat) (hi : i < s.size) (h : ¬ (32 ≤ (s[i]'hi).toNat ∧ (s[i]'hi).toNat ≤ 126)) : glyph_Plain.g s = false := by
  unfold glyph_Plain.g
  rw [List.all_eq_false]
  refine ⟨s[i]'hi, ?_, ?_⟩
  · exact List.getElem_mem (l := s.data.toList) (by simpa using hi)
  · simp only [Bool.and_eq_true, decide_eq_true_eq]
    exact h
theorem glyph_Plain.yes (s : ByteArray) (h : ∀ (i : Nat) (hi : i < s.size), 32 ≤ (s[i]'hi).toNat ∧ (s[i]'hi).toNat ≤ 126) : glyph_Plain.g s = true := by
  unfold glyph_Plain.g
  rw [List.all_eq_true]
  intro c hc
  obtain ⟨i, hi, rfl⟩ := List.mem_iff_getElem.1 hc
  have := h i (by simpa using hi)
  simp only [Bool.and_eq_true, decide_eq_true_eq]
  exact this
set_option maxHeartbeats 4000000 in
theorem glyph_Plain.walk (hA : ∀ (r : Int) (b : Bool) w, glyph_plain.f r = some b → Calls Tryz.prog 121 #[.int .i32 r] w fun e w' => e = .returned (.bool b) ∧ Drawn0 w w')
    (s : ByteArray) (w : World) (hs : s.size ≤ 140737488355327) : Calls Tryz.prog 94 #[.string s] w fun e w' => e = .returned (.bool (glyph_Plain.g s)) ∧ Below w.heap.size w w' := by
  go_enter Tryz.func94, Tryz.ntmps94
  go_wp2
  go_loopw [4] (fun _ wr => ∃ pos, pos ≤ s.size ∧ wr.heap[w.heap.size]? = some (.stringIter s pos) ∧ Below w.heap.size w wr ∧ (∀ (i : Nat) (hi : i < s.size), i < pos → 32 ≤ (s[i]'hi).toNat ∧ (s[i]'hi).toNat ≤ 126)) (fun _ wr => s.size - wr.iterPos w.heap.size)
  case atStart => exact ⟨0, Nat.zero_le _, World.alloc_heap_new w _, below_alloc (Below.refl _ _) _, fun i hi h => absurd h (Nat.not_lt_zero _)⟩
  case round =>
    obtain ⟨pos, hle, hit, hB, hall⟩ := hrel
    by_cases hp : pos < s.size
    · by_cases ha : (s[pos]'hp).toNat < 128
      · have hnx := fun ty => Lib.run_next_ascii_at (P := Tryz.prog) wr w.heap.size s pos ty hit hp ha
        by_cases hpl : 32 ≤ (s[pos]'hp).toNat ∧ (s[pos]'hp).toNat ≤ 126
        · have hb : glyph_plain.f ((s[pos]'hp).toNat : Int) = some true := by unfold glyph_plain.f; rw [if_pos (by omega)]; simp; omega
          go_wp2_with (go_at_call 121; refine (hA _ true _ hb).mono ?_; rintro e w' ⟨rfl, nd, rfl⟩)
          have h2 := Lib.iterAt_heap wr w.heap.size s pos (pos + 1) hit
          refine ⟨⟨pos + 1, hp, h2, pw_below_drewN (Lib.below_iterAt hB (Nat.le_refl _) s (pos + 1)) nd, fun i hi hi2 => ?_⟩, ?_⟩
          · by_cases e : i = pos
            · subst e; exact hpl
            · exact hall i hi (by omega)
          · have e1 : ((wr.iterAt w.heap.size s (pos + 1)).drewN nd).iterPos w.heap.size = pos + 1 := by
              show (match (wr.iterAt w.heap.size s (pos + 1)).heap[w.heap.size]? with | some (.stringIter _ p) => p | _ => 0) = pos + 1
              rw [h2]
            have e2 : wr.iterPos w.heap.size = pos := by unfold World.iterPos; rw [hit]
            rw [e1, e2]; omega
        · have hb : glyph_plain.f ((s[pos]'hp).toNat : Int) = some false := by
            unfold glyph_plain.f
            split
            · simp; omega
            · rfl
          have hg := glyph_Plain.no s pos hp hpl
          go_wp2_with (go_at_call 121; refine (hA _ false _ hb).mono ?_; rintro e w' ⟨rfl, nd, rfl⟩)
          go_ret
          exact ⟨congrArg (fun b => Ending.returned (.bool b)) hg.symm, pw_below_drewN (Lib.below_iterAt hB (Nat.le_refl _) s (pos + 1)) nd⟩
      · have hnx := fun ty => Lib.run_next_any_at (P := Tryz.prog) wr w.heap.size s pos ty hit hp
        have hd := (decode_high s pos hp (by omega)).1
        have hb : glyph_plain.f ((Utf8.decode s pos).1 : Int) = some false := by unfold glyph_plain.f; rw [if_pos (by omega)]; simp; omega
        have hg := glyph_Plain.no s pos hp (by omega)
        go_wp2_with (go_at_call 121; refine (hA _ false _ hb).mono ?_; rintro e w' ⟨rfl, nd, rfl⟩)
        go_ret
        exact ⟨congrArg (fun b => Ending.returned (.bool b)) hg.symm, pw_below_drewN (Lib.below_iterAt hB (Nat.le_refl _) s _) nd⟩
    · have hnx := fun ty => Lib.run_next_end_at (P := Tryz.prog) wr w.heap.size s pos ty hit hp
      have hg := glyph_Plain.yes s (fun i hi => hall i hi (by omega))
      go_wp2
      go_ret
      exact ⟨congrArg (fun b => Ending.returned (.bool b)) hg.symm, hB⟩
theorem glyph_Plain.calls (a0 : ByteArray) (r : Bool) (w : World) (h : glyph_Plain.f a0 = some r) :
    Calls Tryz.prog 94 #[.string a0] w fun e w' => e = .returned (.bool r) ∧ Below w.heap.size w w' := by
 unfold glyph_Plain.f at h
 by_cases h0 : a0.size ≤ 140737488355327
 ·rw [if_pos h0] at h
  obtain rfl := Option.some.inj h
  exact glyph_Plain.walk (fun r b w hb => glyph_plain.calls r b w hb) a0 w h0
 ·rw [if_neg h0] at h
  cases h

end Go.Proofs.YtcpmoolpbeeedaaGreatDoor.Q
