-- Written by a program of this session (wip/myprint) out of the translation, for YtcgfaagadejpmaaGreatDoor.
import Derived.Test.YtcgfaagadejpmaaGreatDoorQ0
import Derived.Test.YtcgfaagadejpmaaGreatDoorQ9
import Derived.Test.YtcgfaagadejpmaaGreatDoorQ10
import Derived.Test.YtcgfaagadejpmaaGreatDoorQ11
namespace Go.Proofs.YtcgfaagadejpmaaGreatDoor.Q
open Go.RowKit Go.Proofs.YtcgfaagadejpmaaGreatDoorW.PrintWords Go.Proofs.YtcgfaagadejpmaaGreatDoorW.PrintLast Go.Proofs.YtcgfaagadejpmaaGreatDoorW.PrintMore Go.Proofs.YtcgfaagadejpmaaGreatDoorW.PrintSq
attribute [local go_sem] max2_int min2_int max_two min_two max_three min_three max_four min_four   -- for this text's walks alone
set_option linter.unusedVariables false
set_option linter.unusedSimpArgs false

/-! ### glyph_Plain: function 102 -/
/-- Are all of a text's bytes plain? -/
def glyph_Plain.g (s : ByteArray) : Bool := s.data.toList.all fun c => decide (32 ≤ c.toNat) && decide (c.toNat ≤ 126)
def glyph_Plain.f (a0 : ByteArray) : Option (Bool) := if a0.size ≤ 140737488355327 then (some (glyph_Plain.g a0)) else none
theorem glyph_Plain.no (s : ByteArray) (i : Nat) (hi : i < s.size) (h : ¬ (32 ≤ (s[i]'hi).toNat ∧ (s[i]'hi).toNat ≤ 126)) : glyph_Plain.g s = false := by
  unfold glyph_Plain.g
  rw [List.all_eq_false]
  refine ⟨s[i]'hi, ?_, ?_⟩
  · exact List.getElem_mem (l := s.data.toList) (by simpa using hi)
  · simp only [Bool.and_eq_true, decide_eq_true_eq]
    exact h
theorem glyph_Plain.yes (s : ByteArray) (h : ∀ (i : Nat) (hi : i < s.size), 32 ≤ (s[i]'hi).toNat ∧ (s[i]'hi).toNat ≤ 126) : glyph_Plain.g s = true := by
  unfold glyph_Plain.g
  rw [List.all_eq_true]
  intro c hc
  obtain ⟨i, hi, rfl⟩ := List.mem_iff_getElem.1 hc
  have := h i (by simpa using hi)
  simp only [Bool.and_eq_true, decide_eq_true_eq]
  exact this
set_option maxHeartbeats 4000000 in
theorem glyph_Plain.walk (hA : ∀ (r : Int) (b : Bool) w, glyph_plain.f r = some b → Calls Tryz.prog 108 #[.int .i32 r] w fun e w' => e = .returned (.bool b) ∧ Drawn0 w w')
    (s : ByteArray) (w : World) (hs : s.size ≤ 140737488355327) : Calls Tryz.prog 102 #[.string s] w fun e w' => e = .returned (.bool (glyph_Plain.g s)) ∧ Below w.heap.size w w' := by
  go_enter Tryz.func102, Tryz.ntmps102
  go_wp2
  go_loopw [4] (fun _ wr => ∃ pos, pos ≤ s.size ∧ wr.heap[w.heap.size]? = some (.stringIter s pos) ∧ Below w.heap.size w wr ∧ (∀ (i : Nat) (hi : i < s.size), i < pos → 32 ≤ (s[i]'hi).toNat ∧ (s[i]'hi).toNat ≤ 126)) (fun _ wr => s.size - wr.iterPos w.heap.size)
  case atStart => exact ⟨0, Nat.zero_le _, World.alloc_heap_new w _, below_alloc (Below.refl _ _) _, fun i hi h => absurd h (Nat.not_lt_zero _)⟩
  case round =>
    obtain ⟨pos, hle, hit, hB, hall⟩ := hrel
    by_cases hp : pos < s.size
    · by_cases ha : (s[pos]'hp).toNat < 128
      · have hnx := fun ty => Lib.run_next_ascii_at (P := Tryz.prog) wr w.heap.size s pos ty hit hp ha
        by_cases hpl : 32 ≤ (s[pos]'hp).toNat ∧ (s[pos]'hp).toNat ≤ 126
        · have hb : glyph_plain.f ((s[pos]'hp).toNat : Int) = some true := by unfold glyph_plain.f; rw [if_pos (by omega)]; simp; omega
          go_wp2_with (go_at_call 108; refine (hA _ true _ hb).mono ?_; rintro e w' ⟨rfl, nd, rfl⟩)
          have h2 := Lib.iterAt_heap wr w.heap.size s pos (pos + 1) hit
          refine ⟨⟨pos + 1, hp, h2, pw_below_drewN (Lib.below_iterAt hB (Nat.le_refl _) s (pos + 1)) nd, fun i hi hi2 => ?_⟩, ?_⟩
          · by_cases e : i = pos
            · subst e; exact hpl
            · exact hall i hi (by omega)
          · have e1 : ((wr.iterAt w.heap.size s (pos + 1)).drewN nd).iterPos w.heap.size = pos + 1 := by
              show (match (wr.iterAt w.heap.size s (pos + 1)).heap[w.heap.size]? with | some (.stringIter _ p) => p | _ => 0) = pos + 1
              rw [h2]
            have e2 : wr.iterPos w.heap.size = pos := by unfold World.iterPos; rw [hit]
            rw [e1, e2]; omega
        · have hb : glyph_plain.f ((s[pos]'hp).toNat : Int) = some false := by
            unfold glyph_plain.f
            split
            · simp; omega
            · rfl
          have hg := glyph_Plain.no s pos hp hpl
          go_wp2_with (go_at_call 108; refine (hA _ false _ hb).mono ?_; rintro e w' ⟨rfl, nd, rfl⟩)
          go_ret
          exact ⟨congrArg (fun b => Ending.returned (.bool b)) hg.symm, pw_below_drewN (Lib.below_iterAt hB (Nat.le_refl _) s (pos + 1)) nd⟩
      · have hnx := fun ty => Lib.run_next_any_at (P := Tryz.prog) wr w.heap.size s pos ty hit hp
        have hd := (decode_high s pos hp (by omega)).1
        have hb : glyph_plain.f ((Utf8.decode s pos).1 : Int) = some false := by unfold glyph_plain.f; rw [if_pos (by omega)]; simp; omega
        have hg := glyph_Plain.no s pos hp (by omega)
        go_wp2_with (go_at_call 108; refine (hA _ false _ hb).mono ?_; rintro e w' ⟨rfl, nd, rfl⟩)
        go_ret
        exact ⟨congrArg (fun b => Ending.returned (.bool b)) hg.symm, pw_below_drewN (Lib.below_iterAt hB (Nat.le_refl _) s _) nd⟩
    · have hnx := fun ty => Lib.run_next_end_at (P := Tryz.prog) wr w.heap.size s pos ty hit hp
      have hg := glyph_Plain.yes s (fun i hi => hall i hi (by omega))
      go_wp2
      go_ret
      exact ⟨congrArg (fun b => Ending.returned (.bool b)) hg.symm, hB⟩
theorem glyph_Plain.calls (a0 : ByteArray) (r : Bool) (w : World) (h : glyph_Plain.f a0 = some r) :
    Calls Tryz.prog 102 #[.string a0] w fun e w' => e = .returned (.bool r) ∧ Below w.heap.size w w' := by
 unfold glyph_Plain.f at h
 by_cases h0 : a0.size ≤ 140737488355327
 ·rw [if_pos h0] at h
  obtain rfl := Option.some.inj h
  exact glyph_Plain.walk (fun r b w hb => glyph_plain.calls r b w hb) a0 w h0
 ·rw [if_neg h0] at h
  cases h

/-! ### addr_why: function 90 -/
def addr_why.j0 : Nat → Int → Bool → ByteArray → ByteArray → Option (Int)
  | 0, _, _, _, _ => none
  | k + 1, x3, x19, x198000, x198001 => if x19 = true then (some 130) else (if x3 = 0 then (if (x198000.size : Int) > 64 then (some 2) else ((addr_Addr_Text.f k x198000 x198001).bind fun t200 => (if (t200.size : Int) > 254 then (some 2) else (some 0)))) else (some 2))
def addr_why.f (k : Nat) (a0_0 : ByteArray) (a0_1 : ByteArray) : Option (Int) := (addr_domain.f k a0_1).bind fun t198 => (if t198 = 130 then (addr_why.j0 k t198 true a0_0 a0_1) else (if a0_0.toList = ([] : List UInt8) then (addr_why.j0 k t198 true a0_0 a0_1) else ((glyph_Plain.f a0_0).bind fun t199 => (addr_why.j0 k t198 (!t199) a0_0 a0_1))))
theorem addr_why.mono_l : ∀ k, (∀ y0 y1 y2 y3, LeO (addr_why.j0 k y0 y1 y2 y3) (addr_why.j0 (k + 1) y0 y1 y2 y3))
  | 0 => fun _ _ _ _ r h => by simp [addr_why.j0] at h
  | k + 1 => by
    have ih0 := addr_why.mono_l k
    · intro y0 y1 y2 y3
      unfold addr_why.j0
      repeat' first | (with_reducible first | exact ih0 _ _ _ _ | exact addr_Addr_Text.mono _ _ _ | exact addr_domain.mono _ _ | exact LeO.refl _ | exact LeO.none _ | refine LeO.ite ?_ ?_ | refine LeO.bind ?_ (fun _ => ?_)) | exact ih0 _ _ _ _ | exact addr_Addr_Text.mono _ _ _ | exact addr_domain.mono _ _ | exact LeO.none _ | refine LeO.ite ?_ ?_ | refine LeO.bind ?_ (fun _ => ?_)
theorem addr_why.mono : ∀ a0 a1 k, LeO (addr_why.f k a0 a1) (addr_why.f (k + 1) a0 a1) := by
  intro a0 a1 k
  have ih0 := addr_why.mono_l k
  unfold addr_why.f
  repeat' first | (with_reducible first | exact ih0 _ _ _ _ | exact addr_Addr_Text.mono _ _ _ | exact addr_domain.mono _ _ | exact LeO.refl _ | exact LeO.none _ | refine LeO.ite ?_ ?_ | refine LeO.bind ?_ (fun _ => ?_)) | exact ih0 _ _ _ _ | exact addr_Addr_Text.mono _ _ _ | exact addr_domain.mono _ _ | exact LeO.none _ | refine LeO.ite ?_ ?_ | refine LeO.bind ?_ (fun _ => ?_)
set_option maxHeartbeats 8000000 in
set_option maxRecDepth 100000 in
theorem addr_why.calls (k : Nat) (a0_0 : ByteArray) (a0_1 : ByteArray) (r : Int) (w : World) (h : addr_why.f k a0_0 a0_1 = some r) :
    Calls Tryz.prog 90 #[.agg #[.string a0_0, .string a0_1]] w fun e w' => e = .returned (.int .i64 r) ∧ Below w.heap.size w w' := by
 have hu86 := Tryz.underlying86
 have HB := Aside0.mk (Below.refl w.heap.size w)
 unfold addr_why.f at h
 have H := h
 clear h
 replace H := Option.bind_eq_some_iff.mp H
 obtain ⟨t198, A20, H⟩ := H
 try dsimp only at H
 have A2 := Aside0.mk A20
 clear A20
 have HC3 := Aside0.mk H
 clear H
 go_enter Tryz.func90, Tryz.ntmps90
 go_upto_region 2 with (first | ((with_reducible refine gate_dst (N := 1) rfl ?_); (try (refine gate_guard (by rfl) ?_; dsimp only)); refine box_event ?hg (N := 1) ?hd (cs := #[.string a0_0, .string a0_1]) (t := 86) ?hr ?_; (case hd => rfl); (case hg => rfl); (case hr => first | (go_simp; done) | (go_simp; rfl)); intro gb197 hg w4 hbox hb; have BK197 := Aside0.mk (hbox); have GW197 : Aside0 (w.heap.size ≤ gb197) := gw_ hg; have GE197 : Aside0 (w.heap.size ≤ gb197) := gw_ hg; replace HB := Aside0.mk (below_step blw hb); clear hb hbox hg; have hcz5_0 : w4.cell? ⟨gb197, 0, none⟩ = some (.string a0_0) := bk_ BK197; have hcz5_1 : w4.cell? ⟨gb197, 1, none⟩ = some (.string a0_1) := bk_ BK197; have hfz5_0 := blk_frozen BK197.out 0; have hfz5_1 := blk_frozen BK197.out 1) | ((with_reducible refine gc 101 rfl ?_); refine cl_ (some 6) Tryz.func101 (addr_domain.calls k a0_1 t198 _ A2.out) ?_; rintro w6 hb; replace BK197 := Aside0.mk (blk_below (g := gb197) (o := .cells #[.string a0_0, .string a0_1] 86 (0, 0)) (bkw BK197) hb); replace HB := Aside0.mk (below_step blw hb); (try clear hb)))
 (try simp only [Act.put, List.setIfInBounds_toArray, List.set_cons_zero, List.set_cons_succ])
 go_cut [19] (fun v19 wc => ∃ (kq : Nat) (x19_2 : Bool), v19 = .bool x19_2 ∧ Aside0 (addr_why.j0 kq t198 x19_2 a0_0 a0_1 = some r) ∧ Aside0 (kq ≤ k) ∧ Aside0 (wc.heap[gb197]? = some (.cells #[.string a0_0, .string a0_1] 86 (0, 0))) ∧ Aside0 (Below w.heap.size w wc))
 case first =>
  have H := HC3.out
  clear HC3
  by_cases c7 : t198 = 130
  ·rw [if_pos c7] at H
   have c7b0 := beq_iff_eq.mpr c7
   have c7b1 := bne_eq_false_iff_eq.mpr c7
   clear c7
   (first | rw [c7b0] | (simp only [i64_w, i32_w]; rw [c7b0]) | skip)
   have H' := Aside0.mk H
   clear H
   go_wp2
   go_meet
   case rel => exact ⟨_, (true), (by first | rfl | (simp; done) | (simp [*]; done) | (simp; exact (by intro l_; cases l_ <;> rfl : ∀ l_ : List UInt8, l_.isEmpty = !(l_ != [])) _)), H', omk, ⟨bkw BK197⟩, ⟨blw⟩⟩
  ·rw [if_neg c7] at H
   have c7b0 := beq_eq_false_iff_ne.mpr c7
   have c7b1 := bne_iff_ne.mpr c7
   (first | rw [c7b0] | (simp only [i64_w, i32_w]; rw [c7b0]) | skip)
   by_cases c8 : a0_0.toList = ([] : List UInt8)
   ·rw [if_pos c8] at H
    have c8b0 := beq_iff_eq.mpr c8
    have c8b1 := bne_eq_false_iff_eq.mpr c8
    clear c8
    have H' := Aside0.mk H
    clear H
    have hcz9_0 : w6.cell? ⟨gb197, 0, none⟩ = some (.string a0_0) := bk_ BK197
    have hcz9_1 : w6.cell? ⟨gb197, 1, none⟩ = some (.string a0_1) := bk_ BK197
    have hfz9_0 := blk_frozen BK197.out 0
    have hfz9_1 := blk_frozen BK197.out 1
    go_wp2
    go_meet
    case rel => exact ⟨_, (true), (by first | rfl | (simp; done) | (simp [*]; done) | (simp; exact (by intro l_; cases l_ <;> rfl : ∀ l_ : List UInt8, l_.isEmpty = !(l_ != [])) _)), H', omk, ⟨bkw BK197⟩, ⟨blw⟩⟩
   ·rw [if_neg c8] at H
    have c8b0 := beq_eq_false_iff_ne.mpr c8
    have c8b1 := bne_iff_ne.mpr c8
    replace H := Option.bind_eq_some_iff.mp H
    obtain ⟨t199, A100, H⟩ := H
    try dsimp only at H
    have A10 := Aside0.mk A100
    clear A100
    have H' := Aside0.mk H
    clear H
    have hcz11_0 : w6.cell? ⟨gb197, 0, none⟩ = some (.string a0_0) := bk_ BK197
    have hcz11_1 : w6.cell? ⟨gb197, 1, none⟩ = some (.string a0_1) := bk_ BK197
    have hfz11_0 := blk_frozen BK197.out 0
    have hfz11_1 := blk_frozen BK197.out 1
    go_wp2_with (first | (go_at_call 102; (with_reducible refine (glyph_Plain.calls a0_0 t199 _ A10.out).mono ?_); rintro e w12 ⟨rfl, hb⟩; replace BK197 := Aside0.mk (blk_below (g := gb197) (o := .cells #[.string a0_0, .string a0_1] 86 (0, 0)) (bkw BK197) hb); replace HB := Aside0.mk (below_step blw hb); (try clear hb)))
    go_meet
    case rel => exact ⟨_, (!t199), (by first | rfl | (simp; done) | (simp [*]; done) | (simp; exact (by intro l_; cases l_ <;> rfl : ∀ l_ : List UInt8, l_.isEmpty = !(l_ != [])) _)), H', omk, ⟨bkw BK197⟩, ⟨blw⟩⟩
 case rest =>
  clear HC3
  try clear c1
  try clear p2
  try clear c7
  try clear c7b0
  try clear c7b1
  try clear c8
  try clear c8b0
  try clear c8b1
  try clear c9
  try clear c10
  try clear hcz11_0 hcz11_1
  try clear hcz5_0 hcz5_1
  try clear hcz9_0 hcz9_1
  try clear hfz11_0 hfz11_1
  try clear hfz5_0 hfz5_1
  try clear hfz9_0 hfz9_1
  obtain ⟨kq, x19_2, rfl, HA, HJ2, BK197, HB⟩ := hcut
  cases kq with
  | zero => exact absurd HA.out (by simp [addr_why.j0])
  | succ kj2 =>
   have H := HA.out
   clear HA
   simp only [addr_why.j0] at H
   by_cases c13 : x19_2 = true
   ·subst c13
    rw [if_pos rfl] at H
    obtain rfl := Option.some.inj H
    go_wp2
    go_ret
    exact ⟨by first | rfl | (simp [errW_none, errW_some] <;> rfl) | (simp [*, errW_none, errW_some] <;> rfl), blw⟩
   ·replace c13 := Bool.eq_false_iff.mpr c13
    subst c13
    rw [if_neg nft] at H
    by_cases c14 : t198 = 0
    ·rw [if_pos c14] at H
     have c14b0 := beq_iff_eq.mpr c14
     have c14b1 := bne_eq_false_iff_eq.mpr c14
     clear c14
     by_cases c15 : (a0_0.size : Int) > 64
     ·rw [if_pos c15] at H
      have c15b0 : decide (64 < (a0_0.size : Int)) = true := decide_eq_true c15
      have c15b1 : decide (64 < a0_0.size) = true := decide_eq_true (by omega)
      clear c15
      obtain rfl := Option.some.inj H
      have hcz16_0 : wc.cell? ⟨gb197, 0, none⟩ = some (.string a0_0) := bk_ BK197
      have hcz16_1 : wc.cell? ⟨gb197, 1, none⟩ = some (.string a0_1) := bk_ BK197
      have hfz16_0 := blk_frozen BK197.out 0
      have hfz16_1 := blk_frozen BK197.out 1
      go_wp2
      go_ret
      exact ⟨by first | rfl | (simp [errW_none, errW_some] <;> rfl) | (simp [*, errW_none, errW_some] <;> rfl), blw⟩
     ·rw [if_neg c15] at H
      have c15b0 : decide (64 < (a0_0.size : Int)) = false := decide_eq_false c15
      have c15b1 : decide (64 < a0_0.size) = false := decide_eq_false (by omega)
      clear c15
      replace H := Option.bind_eq_some_iff.mp H
      obtain ⟨t200, A170, H⟩ := H
      try dsimp only at H
      have A17 := Aside0.mk A170
      clear A170
      by_cases c18 : (t200.size : Int) > 254
      ·rw [if_pos c18] at H
       have c18b0 : decide (254 < (t200.size : Int)) = true := decide_eq_true c18
       have c18b1 : decide (254 < t200.size) = true := decide_eq_true (by omega)
       clear c18
       obtain rfl := Option.some.inj H
       have hcz19_0 : wc.cell? ⟨gb197, 0, none⟩ = some (.string a0_0) := bk_ BK197
       have hcz19_1 : wc.cell? ⟨gb197, 1, none⟩ = some (.string a0_1) := bk_ BK197
       have hfz19_0 := blk_frozen BK197.out 0
       have hfz19_1 := blk_frozen BK197.out 1
       go_wp2_with (first | (go_at_call 83; (with_reducible refine (addr_Addr_Text.calls kj2 a0_0 a0_1 t200 _ A17.out).mono ?_); rintro e w20 ⟨rfl, hb⟩; replace BK197 := Aside0.mk (blk_below (g := gb197) (o := .cells #[.string a0_0, .string a0_1] 86 (0, 0)) (bkw BK197) hb); replace HB := Aside0.mk (below_step blw hb); (try clear hb)))
       go_ret
       exact ⟨by first | rfl | (simp [errW_none, errW_some] <;> rfl) | (simp [*, errW_none, errW_some] <;> rfl), blw⟩
      ·rw [if_neg c18] at H
       have c18b0 : decide (254 < (t200.size : Int)) = false := decide_eq_false c18
       have c18b1 : decide (254 < t200.size) = false := decide_eq_false (by omega)
       clear c18
       obtain rfl := Option.some.inj H
       have hcz21_0 : wc.cell? ⟨gb197, 0, none⟩ = some (.string a0_0) := bk_ BK197
       have hcz21_1 : wc.cell? ⟨gb197, 1, none⟩ = some (.string a0_1) := bk_ BK197
       have hfz21_0 := blk_frozen BK197.out 0
       have hfz21_1 := blk_frozen BK197.out 1
       go_wp2_with (first | (go_at_call 83; (with_reducible refine (addr_Addr_Text.calls kj2 a0_0 a0_1 t200 _ A17.out).mono ?_); rintro e w22 ⟨rfl, hb⟩; replace BK197 := Aside0.mk (blk_below (g := gb197) (o := .cells #[.string a0_0, .string a0_1] 86 (0, 0)) (bkw BK197) hb); replace HB := Aside0.mk (below_step blw hb); (try clear hb)))
       go_ret
       exact ⟨by first | rfl | (simp [errW_none, errW_some] <;> rfl) | (simp [*, errW_none, errW_some] <;> rfl), blw⟩
    ·rw [if_neg c14] at H
     have c14b0 := beq_eq_false_iff_ne.mpr c14
     have c14b1 := bne_iff_ne.mpr c14
     obtain rfl := Option.some.inj H
     go_wp2
     go_ret
     exact ⟨by first | rfl | (simp [errW_none, errW_some] <;> rfl) | (simp [*, errW_none, errW_some] <;> rfl), blw⟩

/-! ### addr_Of: function 82 -/
mutual
def addr_Of.j0 : Nat → List (S119) → ByteArray → Bool → Option (ByteArray × ByteArray × Int)
  | 0, _, _, _ => none
  | k + 1, x0, x4, x21 => if x21 = true then (some ((⟨#[]⟩ : ByteArray), (⟨#[]⟩ : ByteArray), 130)) else (if 1 ≤ (x0.length : Int) then ((addr_joined.f k (x0.drop 1) true).bind fun bt213 => (if bt213.2.2 = true then (addr_Of.j1 k x4 bt213.1 (decide ((bt213.2.1.length : Int) > 0))) else (addr_Of.j1 k x4 bt213.1 true))) else (none))
def addr_Of.j1 : Nat → ByteArray → ByteArray → Bool → Option (ByteArray × ByteArray × Int)
  | 0, _, _, _ => none
  | k + 1, x4, x6, x36 => if x36 = true then (some ((⟨#[]⟩ : ByteArray), (⟨#[]⟩ : ByteArray), 130)) else ((glyph_Fold.f x6).bind fun t218 => ((addr_why.f k x4 t218).bind fun t220 => (if t220 = 0 then (some (x4, t218, 0)) else (some ((⟨#[]⟩ : ByteArray), (⟨#[]⟩ : ByteArray), t220)))))
end
def addr_Of.f (k : Nat) (l0 : List (S119)) : Option (ByteArray × ByteArray × Int) := (addr_joined.f k l0 false).bind fun bt202 => (if bt202.2.2 = true then ((addr_is.f bt202.2.1 (⟨#[64]⟩ : ByteArray)).bind fun t207 => (addr_Of.j0 k bt202.2.1 bt202.1 (!t207))) else (addr_Of.j0 k bt202.2.1 bt202.1 true))
theorem addr_Of.mono_l : ∀ k, (∀ y0 y1 y2, LeO (addr_Of.j0 k y0 y1 y2) (addr_Of.j0 (k + 1) y0 y1 y2)) ∧ (∀ y0 y1 y2, LeO (addr_Of.j1 k y0 y1 y2) (addr_Of.j1 (k + 1) y0 y1 y2))
  | 0 => ⟨fun _ _ _ r h => by simp [addr_Of.j0] at h, fun _ _ _ r h => by simp [addr_Of.j1] at h⟩
  | k + 1 => by
    obtain ⟨ih0, ih1⟩ := addr_Of.mono_l k
    refine ⟨?_, ?_⟩
    · intro y0 y1 y2
      unfold addr_Of.j0
      repeat' first | (with_reducible first | exact ih0 _ _ _ | exact ih1 _ _ _ | exact addr_joined.mono _ _ _ | exact addr_why.mono _ _ _ | exact LeO.refl _ | exact LeO.none _ | refine LeO.ite ?_ ?_ | refine LeO.bind ?_ (fun _ => ?_)) | exact ih0 _ _ _ | exact ih1 _ _ _ | exact addr_joined.mono _ _ _ | exact addr_why.mono _ _ _ | exact LeO.none _ | refine LeO.ite ?_ ?_ | refine LeO.bind ?_ (fun _ => ?_)
    · intro y0 y1 y2
      unfold addr_Of.j1
      repeat' first | (with_reducible first | exact ih0 _ _ _ | exact ih1 _ _ _ | exact addr_joined.mono _ _ _ | exact addr_why.mono _ _ _ | exact LeO.refl _ | exact LeO.none _ | refine LeO.ite ?_ ?_ | refine LeO.bind ?_ (fun _ => ?_)) | exact ih0 _ _ _ | exact ih1 _ _ _ | exact addr_joined.mono _ _ _ | exact addr_why.mono _ _ _ | exact LeO.none _ | refine LeO.ite ?_ ?_ | refine LeO.bind ?_ (fun _ => ?_)
theorem addr_Of.mono : ∀ a0 k, LeO (addr_Of.f k a0) (addr_Of.f (k + 1) a0) := by
  intro a0 k
  obtain ⟨ih0, ih1⟩ := addr_Of.mono_l k
  unfold addr_Of.f
  repeat' first | (with_reducible first | exact ih0 _ _ _ | exact ih1 _ _ _ | exact addr_joined.mono _ _ _ | exact addr_why.mono _ _ _ | exact LeO.refl _ | exact LeO.none _ | refine LeO.ite ?_ ?_ | refine LeO.bind ?_ (fun _ => ?_)) | exact ih0 _ _ _ | exact ih1 _ _ _ | exact addr_joined.mono _ _ _ | exact addr_why.mono _ _ _ | exact LeO.none _ | refine LeO.ite ?_ ?_ | refine LeO.bind ?_ (fun _ => ?_)
set_option maxHeartbeats 8000000 in
set_option maxRecDepth 100000 in
theorem addr_Of.calls (k : Nat) (A0 : Option Addr) (c0 : Nat) (l0 : List (S119)) (r1 : ByteArray) (r2 : ByteArray) (r3 : Int) (w : World) (hr0 : Kd.C k119 w A0 l0.length l0) (hc0 : l0.length ≤ c0) (h : addr_Of.f k l0 = some (r1, r2, r3)) :
    Calls Tryz.prog 82 #[.slice A0 l0.length c0] w fun e w' => e = .returned (.tuple #[.agg #[.string r1, .string r2], .int .i64 r3]) ∧ Below w.heap.size w w' := by
 have hu86 := Tryz.underlying86
 have HR0 := Aside0.mk hr0
 have HC0 := Aside0.mk hc0
 clear hr0 hc0
 have HB := Aside0.mk (Below.refl w.heap.size w)
 unfold addr_Of.f at h
 have H := h
 clear h
 replace H := Option.bind_eq_some_iff.mp H
 obtain ⟨⟨t202, t203, t206⟩, A20, H⟩ := H
 try dsimp only at H
 have A2 := Aside0.mk A20
 clear A20
 have HC3 := Aside0.mk H
 clear H
 go_enter Tryz.func82, Tryz.ntmps82
 go_upto_region 2 with (first | ((with_reducible refine gate_dst (N := 2) rfl ?_); (try (refine gate_guard (by rfl) ?_; dsimp only)); refine box_event ?hg (N := 2) ?hd (cs := #[.string (⟨#[]⟩ : ByteArray), .string (⟨#[]⟩ : ByteArray)]) (t := 86) ?hr ?_; (case hd => rfl); (case hg => rfl); (case hr => first | (go_simp; done) | (go_simp; rfl)); intro gb201 hg w4 hbox hb; have BK201 := Aside0.mk (hbox); have GW201 : Aside0 (w.heap.size ≤ gb201) := gw_ hg; have GE201 : Aside0 (w.heap.size ≤ gb201) := gw_ hg; replace HB := Aside0.mk (below_step blw hb); clear hb hbox hg) | ((with_reducible refine gc 88 rfl ?_); refine gl_ (some 11) Tryz.func88 #[.slice A0 l0.length c0, .bool false] ?_; (with_reducible refine (addr_joined.calls k (fun k_ => k_ < w.heap.size) _ _ l0 false t202 t203 t206 _ ?side1 A2.out).mono ?_); (case side1 => exact Kd.V_mk HC0.out (Kd.F_below (Kd.C_F k119_heap HR0.out) blw)); rintro e w5 ⟨v204, rfl, ho0, hb⟩; refine ⟨_, rfl, ?_⟩; have HO205 := Aside0.mk (Kd.V_lower (Kd.V_mono (ok' := fun k_ => k_ ≠ gb201) ho0 (fun k_ hk_ => Or.elim hk_ (fun hs_ => fun e_ => Nat.not_le.2 hs_ (by rw [e_]; exact GW201.out)) (fun hn_ => (Kd.freshB (g := gb201) (o := .cells #[.string (⟨#[]⟩ : ByteArray), .string (⟨#[]⟩ : ByteArray)] 86 (0, 0)) (bkw BK201) k_ hn_)))) (below_size blw)); replace BK201 := Aside0.mk (blk_below (g := gb201) (o := .cells #[.string (⟨#[]⟩ : ByteArray), .string (⟨#[]⟩ : ByteArray)] 86 (0, 0)) (bkw BK201) hb); replace HB := Aside0.mk (below_step blw hb); (try clear hb); (try clear ho0)))
 (try simp only [Act.put, List.setIfInBounds_toArray, List.set_cons_zero, List.set_cons_succ])
 go_cut [21] (fun v21 wc => ∃ (kq : Nat) (x21_2 : Bool), v21 = .bool x21_2 ∧ Aside0 (addr_Of.j0 kq t203 t202 x21_2 = some (r1, r2, r3)) ∧ Aside0 (kq ≤ k) ∧ Aside0 (Kd.V k119 119 wc w.heap.size (fun k_ => k_ ≠ gb201) v204 t203) ∧ Aside0 (wc.heap[gb201]? = some (.cells #[.string (⟨#[]⟩ : ByteArray), .string (⟨#[]⟩ : ByteArray)] 86 (0, 0))) ∧ Aside0 (Below w.heap.size w wc))
 case first =>
  have H := HC3.out
  clear HC3
  by_cases c6 : t206 = true
  ·subst c6
   rw [if_pos rfl] at H
   replace H := Option.bind_eq_some_iff.mp H
   obtain ⟨t207, A70, H⟩ := H
   try dsimp only at H
   have A7 := Aside0.mk A70
   clear A70
   have H' := Aside0.mk H
   clear H
   obtain ⟨Ao8, co8, eo8⟩ := Kd.V_slice HO205.out
   subst eo8
   go_wp2_with (first | (go_at_call 89; (with_reducible refine (addr_is.calls _ _ t203 (⟨#[64]⟩ : ByteArray) t207 _ ?side1 ?side2 A7.out).mono ?_); (case side1 => repeat (first | exact (Kd.V_reads' HO205.out).2.2 | (with_reducible refine Kd.C_alloc ?_ _) | (with_reducible refine Kd.C_drewN ?_ _) | (with_reducible refine Kd.C_drew ?_))); (case side2 => exact (Kd.V_reads' HO205.out).2.1); rintro e w' ⟨rfl, ⟨nd, rfl⟩⟩))
   go_meet
   case rel => exact ⟨_, (!t207), eqs, H', omk, ⟨by (with_reducible repeat (first | apply Kd.V_alloc | apply Kd.V_drewN | apply Kd.V_drew)); exact HO205.out⟩, ⟨bkw BK201⟩, ⟨blw⟩⟩
  ·replace c6 := Bool.eq_false_iff.mpr c6
   subst c6
   rw [if_neg nft] at H
   have H' := Aside0.mk H
   clear H
   go_wp2
   go_meet
   case rel => exact ⟨_, (true), eqs, H', omk, ⟨by (with_reducible repeat (first | apply Kd.V_alloc | apply Kd.V_drewN | apply Kd.V_drew)); exact HO205.out⟩, ⟨bkw BK201⟩, ⟨blw⟩⟩
 case rest =>
  clear HC3
  try clear p2
  try clear c6
  try clear c8
  obtain ⟨kq, x21_2, rfl, HA, HJ2, HO_0, BK201, HB⟩ := hcut
  cases kq with
  | zero => exact absurd HA.out (by simp [addr_Of.j0])
  | succ kj2 =>
   have H := HA.out
   clear HA
   simp only [addr_Of.j0] at H
   by_cases c9 : x21_2 = true
   ·subst c9
    rw [if_pos rfl] at H
    simp only [Option.some.injEq, Prod.mk.injEq] at H
    obtain ⟨rfl, rfl, rfl⟩ := H
    have hcz10_0 : wc.cell? ⟨gb201, 0, none⟩ = some (.string (⟨#[]⟩ : ByteArray)) := bk_ BK201
    have hcz10_1 : wc.cell? ⟨gb201, 1, none⟩ = some (.string (⟨#[]⟩ : ByteArray)) := bk_ BK201
    have hfz10_0 := blk_frozen BK201.out 0
    have hfz10_1 := blk_frozen BK201.out 1
    go_wp2
    refine bodyPost_ret (results_ct rfl _ _ gb201 86 #[.string (⟨#[]⟩ : ByteArray), .string (⟨#[]⟩ : ByteArray)] (0, 0) _ rfl (by (with_reducible repeat (first | refine blk_drewN ?_ _ | refine blk_drew ?_ | refine blk_alloc ?_ _)); refine blk_put (cs := #[.string (⟨#[]⟩ : ByteArray), .string (⟨#[]⟩ : ByteArray)]) ?_ 1 _ rfl; (with_reducible repeat (first | refine blk_drewN ?_ _ | refine blk_drew ?_ | refine blk_alloc ?_ _)); refine blk_put (cs := #[.string (⟨#[]⟩ : ByteArray), .string (⟨#[]⟩ : ByteArray)]) ?_ 0 _ rfl; (with_reducible repeat (first | refine blk_drewN ?_ _ | refine blk_drew ?_ | refine blk_alloc ?_ _)); exact BK201.out) Tryz.underlying86 rfl (by kernel_rfl)) rfl ?_
    exact ⟨by first | rfl | (simp [errW_none, errW_some] <;> rfl) | (simp [*, errW_none, errW_some] <;> rfl), blw⟩
   ·replace c9 := Bool.eq_false_iff.mpr c9
    subst c9
    rw [if_neg nft] at H
    obtain ⟨c11, H⟩ := iteS H
    have c11b0 := eq_true c11
    have c11b1 := decide_eq_true c11
    clear c11
    obtain ⟨y208, hy208⟩ : ∃ y_ : List (S119), y_ = (t203.drop 1) := ⟨_, rfl⟩
    replace H : ((addr_joined.f kj2 y208 true).bind fun bt213 => (if bt213.2.2 = true then (addr_Of.j1 kj2 t202 bt213.1 (decide ((bt213.2.1.length : Int) > 0))) else (addr_Of.j1 kj2 t202 bt213.1 true))) = some (r1, r2, r3) := by first | (rw [hy208]; with_reducible exact H) | (have H2_ := (Option.bind_some _ _).symm.trans H; rw [hy208]; with_reducible exact H2_) | (have H2_ := (Option.bind_some _ _).symm.trans H; with_reducible exact H2_) | with_reducible exact H | (rw [hy208]; exact H) | exact H
    have Ny208 := Aside0.mk hy208
    clear hy208
    replace H := Option.bind_eq_some_iff.mp H
    obtain ⟨⟨t213, t214, t217⟩, A120, H⟩ := H
    try dsimp only at H
    have A12 := Aside0.mk A120
    clear A120
    have HC13 := Aside0.mk H
    clear H
    obtain ⟨Ao15, co15, eo15⟩ := Kd.V_slice HO_0.out
    subst eo15
    have q14 : (1 : Int) ≤ ((t203.length : Int) : Int) := od_
    obtain ⟨i014, hi014, _, hsz14, _⟩ := info_parts info119
    have hroom14 : t203.length ≤ co15 := (Kd.V_reads' HO_0.out).2.1
    have hC14 : Kd.F k119 _ _ Ao15 t203.length t203 := (Kd.V_at (base := w.heap.size) HO_0.out).2.2
    have hcut14 := cut_from (P := Tryz.prog) 110 119 .i64 Tryz.underlying110 hi014 2 hsz14 Ao15 t203.length co15 1 (by omega) q14
    have hr14 := Kd.F_cut (m := (1 : Int).toNat) (c := co15) hC14 (by omega) hroom14
    obtain ⟨A14, hA14⟩ : ∃ A1, A1 = (if co15 = (1 : Int).toNat then Ao15 else (Ao15 : Option Addr).map (·.add ((1 : Int).toNat * 2))) := ⟨_, rfl⟩
    obtain ⟨c14, hc14⟩ : ∃ c1, c1 = co15 - (1 : Int).toNat := ⟨_, rfl⟩
    have hy14 : y208.length = t203.length - (1 : Int).toNat := (by rw [Ny208.out, List.length_drop] <;> omega)
    rw [show (t203).drop (1 : Int).toNat = y208 from Ny208.out.symm] at hr14
    replace hr14 : Kd.F k119 _ _ A14 y208.length y208 := (by rw [hA14]; exact hr14)
    rw [← hy14, ← hA14, ← hc14] at hcut14
    have HO212 := Aside0.mk (show Kd.V k119 119 _ w.heap.size _ (.slice A14 y208.length c14) y208 from Kd.V_mk (by rw [hy14, hc14]; exact Nat.sub_le_sub_right hroom14 _) hr14)
    have HC212 := Aside0.mk (show y208.length ≤ c14 from by rw [hy14, hc14]; exact Nat.sub_le_sub_right hroom14 _)
    clear hr14 hC14 hroom14 hi014 hsz14 hc14
    have KY14 := Aside0.mk hy14
    have KA14 := Aside0.mk hA14
    clear hy14 hA14
    replace q14 := eq_true q14
    go_upto_region 5 with (first | ((with_reducible refine gc 88 rfl ?_); refine gl_ (some 26) Tryz.func88 #[.slice A14 y208.length c14, .bool true] ?_; (with_reducible refine (addr_joined.calls kj2 (fun k_ => k_ ≠ gb201) _ _ y208 true t213 t214 t217 _ ?side1 A12.out).mono ?_); (case side1 => exact HO212.out); rintro e w16 ⟨v215, rfl, ho0, hb⟩; refine ⟨_, rfl, ?_⟩; replace HO_0 := Aside0.mk (Kd.V_below (by (with_reducible repeat (first | apply Kd.V_alloc | apply Kd.V_drewN | apply Kd.V_drew)); exact HO_0.out) hb); replace HO212 := Aside0.mk (Kd.V_below (by (with_reducible repeat (first | apply Kd.V_alloc | apply Kd.V_drewN | apply Kd.V_drew)); exact HO212.out) hb); have HO216 := Aside0.mk (Kd.V_lower (Kd.V_mono (ok' := fun k_ => k_ ≠ gb201) ho0 (fun k_ hk_ => Or.elim hk_ (fun hs_ => hs_) (fun hn_ => (Kd.freshB (g := gb201) (o := .cells #[.string (⟨#[]⟩ : ByteArray), .string (⟨#[]⟩ : ByteArray)] 86 (0, 0)) (bkw BK201) k_ hn_)))) (below_size blw)); replace BK201 := Aside0.mk (blk_below (g := gb201) (o := .cells #[.string (⟨#[]⟩ : ByteArray), .string (⟨#[]⟩ : ByteArray)] 86 (0, 0)) (bkw BK201) hb); replace HB := Aside0.mk (below_step blw hb); (try clear hb); (try clear ho0)))
    (try simp only [Act.put, List.setIfInBounds_toArray, List.set_cons_zero, List.set_cons_succ])
    go_cut [36] (fun v36 wc => ∃ (kq : Nat) (x36_12 : Bool), v36 = .bool x36_12 ∧ Aside0 (addr_Of.j1 kq t202 t213 x36_12 = some (r1, r2, r3)) ∧ Aside0 (kq ≤ kj2) ∧ Aside0 (wc.heap[gb201]? = some (.cells #[.string (⟨#[]⟩ : ByteArray), .string (⟨#[]⟩ : ByteArray)] 86 (0, 0))) ∧ Aside0 (Below w.heap.size w wc))
    case first =>
     have H := HC13.out
     clear HC13
     by_cases c17 : t217 = true
     ·subst c17
      rw [if_pos rfl] at H
      have H' := Aside0.mk H
      clear H
      obtain ⟨Ao18, co18, eo18⟩ := Kd.V_slice HO216.out
      subst eo18
      go_wp2
      go_meet
      case rel => exact ⟨_, (decide ((t214.length : Int) > 0)), eqs, H', ⟨by have := HJ2.out; first | omega | exact Nat.le_refl _⟩, ⟨bkw BK201⟩, ⟨blw⟩⟩
     ·replace c17 := Bool.eq_false_iff.mpr c17
      subst c17
      rw [if_neg nft] at H
      have H' := Aside0.mk H
      clear H
      go_wp2
      go_meet
      case rel => exact ⟨_, (true), eqs, H', ⟨by have := HJ2.out; first | omega | exact Nat.le_refl _⟩, ⟨bkw BK201⟩, ⟨blw⟩⟩
    case rest =>
     clear HC13
     try clear c1
     try clear q1
     try clear p2
     try clear c6
     try clear c8
     try clear c9
     try clear c11
     try clear c11b0
     try clear c11b1
     try clear c14
     try clear q14
     try clear c17
     try clear hcz10_0 hcz10_1
     try clear hfz10_0 hfz10_1
     try clear p2
     try clear q14
     obtain ⟨kq, x36_12, rfl, HA, HJ12, BK201, HB⟩ := hcut
     cases kq with
     | zero => exact absurd HA.out (by simp [addr_Of.j1])
     | succ kj12 =>
      have H := HA.out
      clear HA
      simp only [addr_Of.j1] at H
      by_cases c19 : x36_12 = true
      ·subst c19
       rw [if_pos rfl] at H
       simp only [Option.some.injEq, Prod.mk.injEq] at H
       obtain ⟨rfl, rfl, rfl⟩ := H
       have hcz20_0 : wc.cell? ⟨gb201, 0, none⟩ = some (.string (⟨#[]⟩ : ByteArray)) := bk_ BK201
       have hcz20_1 : wc.cell? ⟨gb201, 1, none⟩ = some (.string (⟨#[]⟩ : ByteArray)) := bk_ BK201
       have hfz20_0 := blk_frozen BK201.out 0
       have hfz20_1 := blk_frozen BK201.out 1
       go_wp2
       refine bodyPost_ret (results_ct rfl _ _ gb201 86 #[.string (⟨#[]⟩ : ByteArray), .string (⟨#[]⟩ : ByteArray)] (0, 0) _ rfl (by (with_reducible repeat (first | refine blk_drewN ?_ _ | refine blk_drew ?_ | refine blk_alloc ?_ _)); refine blk_put (cs := #[.string (⟨#[]⟩ : ByteArray), .string (⟨#[]⟩ : ByteArray)]) ?_ 1 _ rfl; (with_reducible repeat (first | refine blk_drewN ?_ _ | refine blk_drew ?_ | refine blk_alloc ?_ _)); refine blk_put (cs := #[.string (⟨#[]⟩ : ByteArray), .string (⟨#[]⟩ : ByteArray)]) ?_ 0 _ rfl; (with_reducible repeat (first | refine blk_drewN ?_ _ | refine blk_drew ?_ | refine blk_alloc ?_ _)); exact BK201.out) Tryz.underlying86 rfl (by kernel_rfl)) rfl ?_
       exact ⟨by first | rfl | (simp [errW_none, errW_some] <;> rfl) | (simp [*, errW_none, errW_some] <;> rfl), blw⟩
      ·replace c19 := Bool.eq_false_iff.mpr c19
       subst c19
       rw [if_neg nft] at H
       replace H := Option.bind_eq_some_iff.mp H
       obtain ⟨t218, A210, H⟩ := H
       try dsimp only at H
       have A21 := Aside0.mk A210
       clear A210
       replace H := Option.bind_eq_some_iff.mp H
       obtain ⟨t220, A220, H⟩ := H
       try dsimp only at H
       have A22 := Aside0.mk A220
       clear A220
       by_cases c23 : t220 = 0
       ·rw [if_pos c23] at H
        have c23b0 := beq_iff_eq.mpr c23
        have c23b1 := bne_eq_false_iff_eq.mpr c23
        clear c23
        simp only [Option.some.injEq, Prod.mk.injEq] at H
        obtain ⟨rfl, rfl, rfl⟩ := H
        go_wp2_with (first | ((with_reducible refine gc 69 rfl ?_); refine cl_ (some 40) Tryz.func69 (glyph_Fold.calls t213 t218 _ A21.out) ?_; rintro w24 hb; replace BK201 := Aside0.mk (blk_below (g := gb201) (o := .cells #[.string (⟨#[]⟩ : ByteArray), .string (⟨#[]⟩ : ByteArray)] 86 (0, 0)) (bkw BK201) hb); replace HB := Aside0.mk (below_step blw hb); (try clear hb)) | ((with_reducible refine gate_dst (N := 7) rfl ?_); (try (refine gate_guard (by rfl) ?_; dsimp only)); refine box_event ?hg (N := 7) ?hd (cs := #[.string (⟨#[]⟩ : ByteArray), .string (⟨#[]⟩ : ByteArray)]) (t := 86) ?hr ?_; (case hd => rfl); (case hg => rfl); (case hr => first | (go_simp; done) | (go_simp; rfl)); intro gb219 hg w25 hbox hb; have BK219 := Aside0.mk (hbox); have GW219 : Aside0 (w.heap.size ≤ gb219) := gw_ hg; have GE219 : Aside0 (w.heap.size ≤ gb219) := gw_ hg; replace HB := Aside0.mk (below_step blw hb); have NB201_219 := Aside0.mk ((by rw [hg]; exact Nat.ne_of_lt (blk_lt (g := gb201) (o := .cells #[.string (⟨#[]⟩ : ByteArray), .string (⟨#[]⟩ : ByteArray)] 86 (0, 0)) (bkw BK201)) : gb201 ≠ gb219)); have NB219_201 := Aside0.mk ((by rw [hg]; exact Nat.ne_of_gt (blk_lt (g := gb201) (o := .cells #[.string (⟨#[]⟩ : ByteArray), .string (⟨#[]⟩ : ByteArray)] 86 (0, 0)) (bkw BK201)) : gb219 ≠ gb201)); replace BK201 := Aside0.mk (blk_below (g := gb201) (o := .cells #[.string (⟨#[]⟩ : ByteArray), .string (⟨#[]⟩ : ByteArray)] 86 (0, 0)) (bkw BK201) hb); clear hb hbox hg; have hnb26 := NB219_201.out; have hnc26 := NB201_219.out; have hcz27_0 : w25.cell? ⟨gb219, 0, none⟩ = some (.string (⟨#[]⟩ : ByteArray)) := bk_ BK219; have hcz27_1 : w25.cell? ⟨gb219, 1, none⟩ = some (.string (⟨#[]⟩ : ByteArray)) := bk_ BK219; have hfz27_0 := blk_frozen BK219.out 0; have hfz27_1 := blk_frozen BK219.out 1) | ((with_reducible refine gc 90 rfl ?_); refine cl_ (some 43) Tryz.func90 (addr_why.calls kj12 t202 t218 t220 _ A22.out) ?_; rintro w28 hb; replace BK201 := Aside0.mk (blk_below (g := gb201) (o := .cells #[.string (⟨#[]⟩ : ByteArray), .string (⟨#[]⟩ : ByteArray)] 86 (0, 0)) (by (with_reducible repeat (first | refine blk_drewN ?_ _ | refine blk_drew ?_ | refine blk_alloc ?_ _)); refine blk_far ?_ NB201_219.out _; (with_reducible repeat (first | refine blk_drewN ?_ _ | refine blk_drew ?_ | refine blk_alloc ?_ _)); refine blk_far ?_ NB201_219.out _; (with_reducible repeat (first | refine blk_drewN ?_ _ | refine blk_drew ?_ | refine blk_alloc ?_ _)); exact BK201.out) hb); replace BK219 := Aside0.mk (blk_below (g := gb219) (o := .cells #[.string t202, .string t218] 86 (0, 0)) (by (with_reducible repeat (first | refine blk_drewN ?_ _ | refine blk_drew ?_ | refine blk_alloc ?_ _)); refine blk_put (cs := #[.string t202, .string (⟨#[]⟩ : ByteArray)]) ?_ 1 _ rfl; (with_reducible repeat (first | refine blk_drewN ?_ _ | refine blk_drew ?_ | refine blk_alloc ?_ _)); refine blk_put (cs := #[.string (⟨#[]⟩ : ByteArray), .string (⟨#[]⟩ : ByteArray)]) ?_ 0 _ rfl; (with_reducible repeat (first | refine blk_drewN ?_ _ | refine blk_drew ?_ | refine blk_alloc ?_ _)); exact BK219.out) hb); replace HB := Aside0.mk (below_step blw hb); (try clear hb); have hcz29_0 : w28.cell? ⟨gb219, 0, none⟩ = some (.string t202) := bk_ BK219; have hcz29_1 : w28.cell? ⟨gb219, 1, none⟩ = some (.string t218) := bk_ BK219; have hfz29_0 := blk_frozen BK219.out 0; have hfz29_1 := blk_frozen BK219.out 1; have hcz30_0 : w28.cell? ⟨gb201, 0, none⟩ = some (.string (⟨#[]⟩ : ByteArray)) := bk_ BK201; have hcz30_1 : w28.cell? ⟨gb201, 1, none⟩ = some (.string (⟨#[]⟩ : ByteArray)) := bk_ BK201; have hfz30_0 := blk_frozen BK201.out 0; have hfz30_1 := blk_frozen BK201.out 1))
        refine bodyPost_ret (results_ct rfl _ _ gb201 86 #[.string t202, .string t218] (0, 0) _ rfl (by (with_reducible repeat (first | refine blk_drewN ?_ _ | refine blk_drew ?_ | refine blk_alloc ?_ _)); refine blk_put (cs := #[.string t202, .string (⟨#[]⟩ : ByteArray)]) ?_ 1 _ rfl; (with_reducible repeat (first | refine blk_drewN ?_ _ | refine blk_drew ?_ | refine blk_alloc ?_ _)); refine blk_put (cs := #[.string (⟨#[]⟩ : ByteArray), .string (⟨#[]⟩ : ByteArray)]) ?_ 0 _ rfl; (with_reducible repeat (first | refine blk_drewN ?_ _ | refine blk_drew ?_ | refine blk_alloc ?_ _)); exact BK201.out) Tryz.underlying86 rfl (by kernel_rfl)) rfl ?_
        exact ⟨by first | rfl | (simp [errW_none, errW_some] <;> rfl) | (simp [*, errW_none, errW_some] <;> rfl), blw⟩
       ·rw [if_neg c23] at H
        have c23b0 := beq_eq_false_iff_ne.mpr c23
        have c23b1 := bne_iff_ne.mpr c23
        simp only [Option.some.injEq, Prod.mk.injEq] at H
        obtain ⟨rfl, rfl, rfl⟩ := H
        go_wp2_with (first | ((with_reducible refine gc 69 rfl ?_); refine cl_ (some 40) Tryz.func69 (glyph_Fold.calls t213 t218 _ A21.out) ?_; rintro w31 hb; replace BK201 := Aside0.mk (blk_below (g := gb201) (o := .cells #[.string (⟨#[]⟩ : ByteArray), .string (⟨#[]⟩ : ByteArray)] 86 (0, 0)) (bkw BK201) hb); replace HB := Aside0.mk (below_step blw hb); (try clear hb)) | ((with_reducible refine gate_dst (N := 7) rfl ?_); (try (refine gate_guard (by rfl) ?_; dsimp only)); refine box_event ?hg (N := 7) ?hd (cs := #[.string (⟨#[]⟩ : ByteArray), .string (⟨#[]⟩ : ByteArray)]) (t := 86) ?hr ?_; (case hd => rfl); (case hg => rfl); (case hr => first | (go_simp; done) | (go_simp; rfl)); intro gb219 hg w32 hbox hb; have BK219 := Aside0.mk (hbox); have GW219 : Aside0 (w.heap.size ≤ gb219) := gw_ hg; have GE219 : Aside0 (w.heap.size ≤ gb219) := gw_ hg; replace HB := Aside0.mk (below_step blw hb); have NB201_219 := Aside0.mk ((by rw [hg]; exact Nat.ne_of_lt (blk_lt (g := gb201) (o := .cells #[.string (⟨#[]⟩ : ByteArray), .string (⟨#[]⟩ : ByteArray)] 86 (0, 0)) (bkw BK201)) : gb201 ≠ gb219)); have NB219_201 := Aside0.mk ((by rw [hg]; exact Nat.ne_of_gt (blk_lt (g := gb201) (o := .cells #[.string (⟨#[]⟩ : ByteArray), .string (⟨#[]⟩ : ByteArray)] 86 (0, 0)) (bkw BK201)) : gb219 ≠ gb201)); replace BK201 := Aside0.mk (blk_below (g := gb201) (o := .cells #[.string (⟨#[]⟩ : ByteArray), .string (⟨#[]⟩ : ByteArray)] 86 (0, 0)) (bkw BK201) hb); clear hb hbox hg; have hnb33 := NB219_201.out; have hnc33 := NB201_219.out; have hcz34_0 : w32.cell? ⟨gb219, 0, none⟩ = some (.string (⟨#[]⟩ : ByteArray)) := bk_ BK219; have hcz34_1 : w32.cell? ⟨gb219, 1, none⟩ = some (.string (⟨#[]⟩ : ByteArray)) := bk_ BK219; have hfz34_0 := blk_frozen BK219.out 0; have hfz34_1 := blk_frozen BK219.out 1) | ((with_reducible refine gc 90 rfl ?_); refine cl_ (some 43) Tryz.func90 (addr_why.calls kj12 t202 t218 t220 _ A22.out) ?_; rintro w35 hb; replace BK201 := Aside0.mk (blk_below (g := gb201) (o := .cells #[.string (⟨#[]⟩ : ByteArray), .string (⟨#[]⟩ : ByteArray)] 86 (0, 0)) (by (with_reducible repeat (first | refine blk_drewN ?_ _ | refine blk_drew ?_ | refine blk_alloc ?_ _)); refine blk_far ?_ NB201_219.out _; (with_reducible repeat (first | refine blk_drewN ?_ _ | refine blk_drew ?_ | refine blk_alloc ?_ _)); refine blk_far ?_ NB201_219.out _; (with_reducible repeat (first | refine blk_drewN ?_ _ | refine blk_drew ?_ | refine blk_alloc ?_ _)); exact BK201.out) hb); replace BK219 := Aside0.mk (blk_below (g := gb219) (o := .cells #[.string t202, .string t218] 86 (0, 0)) (by (with_reducible repeat (first | refine blk_drewN ?_ _ | refine blk_drew ?_ | refine blk_alloc ?_ _)); refine blk_put (cs := #[.string t202, .string (⟨#[]⟩ : ByteArray)]) ?_ 1 _ rfl; (with_reducible repeat (first | refine blk_drewN ?_ _ | refine blk_drew ?_ | refine blk_alloc ?_ _)); refine blk_put (cs := #[.string (⟨#[]⟩ : ByteArray), .string (⟨#[]⟩ : ByteArray)]) ?_ 0 _ rfl; (with_reducible repeat (first | refine blk_drewN ?_ _ | refine blk_drew ?_ | refine blk_alloc ?_ _)); exact BK219.out) hb); replace HB := Aside0.mk (below_step blw hb); (try clear hb); have hcz36_0 : w35.cell? ⟨gb201, 0, none⟩ = some (.string (⟨#[]⟩ : ByteArray)) := bk_ BK201; have hcz36_1 : w35.cell? ⟨gb201, 1, none⟩ = some (.string (⟨#[]⟩ : ByteArray)) := bk_ BK201; have hfz36_0 := blk_frozen BK201.out 0; have hfz36_1 := blk_frozen BK201.out 1))
        refine bodyPost_ret (results_ct rfl _ _ gb201 86 #[.string (⟨#[]⟩ : ByteArray), .string (⟨#[]⟩ : ByteArray)] (0, 0) _ rfl (by (with_reducible repeat (first | refine blk_drewN ?_ _ | refine blk_drew ?_ | refine blk_alloc ?_ _)); refine blk_put (cs := #[.string (⟨#[]⟩ : ByteArray), .string (⟨#[]⟩ : ByteArray)]) ?_ 1 _ rfl; (with_reducible repeat (first | refine blk_drewN ?_ _ | refine blk_drew ?_ | refine blk_alloc ?_ _)); refine blk_put (cs := #[.string (⟨#[]⟩ : ByteArray), .string (⟨#[]⟩ : ByteArray)]) ?_ 0 _ rfl; (with_reducible repeat (first | refine blk_drewN ?_ _ | refine blk_drew ?_ | refine blk_alloc ?_ _)); exact BK201.out) Tryz.underlying86 rfl (by kernel_rfl)) rfl ?_
        exact ⟨by first | rfl | (simp [errW_none, errW_some] <;> rfl) | (simp [*, errW_none, errW_some] <;> rfl), blw⟩

/-! ### addr_Parse: function 68 -/
def addr_Parse.f (k : Nat) (a0 : ByteArray) : Option (ByteArray × ByteArray × Int) := (lex_Scan.f k a0).bind fun bt222 => (if bt222.2 = 0 then ((addr_Of.f k bt222.1).bind fun bt226 => (some (bt226.1, bt226.2.1, bt226.2.2))) else (some ((⟨#[]⟩ : ByteArray), (⟨#[]⟩ : ByteArray), 130)))
theorem addr_Parse.mono : ∀ a0 k, LeO (addr_Parse.f k a0) (addr_Parse.f (k + 1) a0) := by
  intro a0 k
  unfold addr_Parse.f
  repeat' first | (with_reducible first | exact addr_Of.mono _ _ | exact lex_Scan.mono _ _ | exact LeO.refl _ | exact LeO.none _ | refine LeO.ite ?_ ?_ | refine LeO.bind ?_ (fun _ => ?_)) | exact addr_Of.mono _ _ | exact lex_Scan.mono _ _ | exact LeO.none _ | refine LeO.ite ?_ ?_ | refine LeO.bind ?_ (fun _ => ?_)
set_option maxHeartbeats 8000000 in
set_option maxRecDepth 100000 in
theorem addr_Parse.calls (k : Nat) (a0 : ByteArray) (r1 : ByteArray) (r2 : ByteArray) (r3 : Int) (w : World) (h : addr_Parse.f k a0 = some (r1, r2, r3)) :
    Calls Tryz.prog 68 #[.string a0] w fun e w' => e = .returned (.tuple #[.agg #[.string r1, .string r2], .int .i64 r3]) ∧ Below w.heap.size w w' := by
 have hu86 := Tryz.underlying86
 have HB := Aside0.mk (Below.refl w.heap.size w)
 unfold addr_Parse.f at h
 have H := h
 clear h
 replace H := Option.bind_eq_some_iff.mp H
 obtain ⟨⟨t222, t223⟩, A20, H⟩ := H
 try dsimp only at H
 have A2 := Aside0.mk A20
 clear A20
 by_cases c3 : t223 = 0
 ·rw [if_pos c3] at H
  have c3b0 := beq_iff_eq.mpr c3
  have c3b1 := bne_eq_false_iff_eq.mpr c3
  clear c3
  replace H := Option.bind_eq_some_iff.mp H
  obtain ⟨⟨t226, t227, t228⟩, A40, H⟩ := H
  try dsimp only at H
  have A4 := Aside0.mk A40
  clear A40
  simp only [Option.some.injEq, Prod.mk.injEq] at H
  obtain ⟨rfl, rfl, rfl⟩ := H
  go_enter Tryz.func68, Tryz.ntmps68
  go_wp2_with (first | ((with_reducible refine gate_dst (N := 2) rfl ?_); refine box_event ?hg (N := 2) ?hd (cs := #[.string (⟨#[]⟩ : ByteArray), .string (⟨#[]⟩ : ByteArray)]) (t := 86) ?hr ?_; (case hd => rfl); (case hg => rfl); (case hr => first | (go_simp; done) | (go_simp; rfl)); intro gb221 hg w5 hbox hb; have BK221 := Aside0.mk (hbox); have GW221 : Aside0 (w.heap.size ≤ gb221) := gw_ hg; have GE221 : Aside0 (w.heap.size ≤ gb221) := gw_ hg; replace HB := Aside0.mk (below_step blw hb); clear hb hbox hg) | ((with_reducible refine gc 81 rfl ?_); refine gl_ (some 8) Tryz.func81 #[.string a0] ?_; (with_reducible refine (lex_Scan.calls k a0 t222 t223 _ A2.out).mono ?_); rintro e w6 ⟨v224, rfl, ho0, hb⟩; refine ⟨_, rfl, ?_⟩; have HO225 := Aside0.mk (Kd.R_lower ho0 (below_size blw)); replace BK221 := Aside0.mk (blk_below (g := gb221) (o := .cells #[.string (⟨#[]⟩ : ByteArray), .string (⟨#[]⟩ : ByteArray)] 86 (0, 0)) (bkw BK221) hb); replace HB := Aside0.mk (below_step blw hb); (try clear hb); (try clear ho0); obtain ⟨Ao7, co7, eo7⟩ := Kd.R_slice HO225.out; subst eo7) | ((with_reducible refine gc 82 rfl ?_); refine gl_ (some 15) Tryz.func82 #[.slice Ao7 t222.length co7] ?_; (with_reducible refine (addr_Of.calls k _ _ t222 t226 t227 t228 _ ?side1 ?side2 A4.out).mono ?_); (case side1 => repeat (first | exact (Kd.R_reads' HO225.out).2.2 | (with_reducible refine Kd.C_alloc ?_ _) | (with_reducible refine Kd.C_drewN ?_ _) | (with_reducible refine Kd.C_drew ?_))); (case side2 => exact (Kd.R_reads' HO225.out).2.1); rintro e w8 ⟨rfl, hb⟩; refine ⟨_, rfl, ?_⟩; replace HO225 := Aside0.mk (Kd.R_below (by (with_reducible repeat (first | apply Kd.R_alloc | apply Kd.R_drewN | apply Kd.R_drew)); exact HO225.out) hb); replace BK221 := Aside0.mk (blk_below (g := gb221) (o := .cells #[.string (⟨#[]⟩ : ByteArray), .string (⟨#[]⟩ : ByteArray)] 86 (0, 0)) (bkw BK221) hb); replace HB := Aside0.mk (below_step blw hb); (try clear hb); have hcz9_0 : w8.cell? ⟨gb221, 0, none⟩ = some (.string (⟨#[]⟩ : ByteArray)) := bk_ BK221; have hcz9_1 : w8.cell? ⟨gb221, 1, none⟩ = some (.string (⟨#[]⟩ : ByteArray)) := bk_ BK221; have hfz9_0 := blk_frozen BK221.out 0; have hfz9_1 := blk_frozen BK221.out 1))
  refine bodyPost_ret (results_ct rfl _ _ gb221 86 #[.string t226, .string t227] (0, 0) _ rfl (by (with_reducible repeat (first | refine blk_drewN ?_ _ | refine blk_drew ?_ | refine blk_alloc ?_ _)); refine blk_put (cs := #[.string t226, .string (⟨#[]⟩ : ByteArray)]) ?_ 1 _ rfl; (with_reducible repeat (first | refine blk_drewN ?_ _ | refine blk_drew ?_ | refine blk_alloc ?_ _)); refine blk_put (cs := #[.string (⟨#[]⟩ : ByteArray), .string (⟨#[]⟩ : ByteArray)]) ?_ 0 _ rfl; (with_reducible repeat (first | refine blk_drewN ?_ _ | refine blk_drew ?_ | refine blk_alloc ?_ _)); exact BK221.out) Tryz.underlying86 rfl (by kernel_rfl)) rfl ?_
  exact ⟨by first | rfl | (simp [errW_none, errW_some] <;> rfl) | (simp [*, errW_none, errW_some] <;> rfl), blw⟩
 ·rw [if_neg c3] at H
  have c3b0 := beq_eq_false_iff_ne.mpr c3
  have c3b1 := bne_iff_ne.mpr c3
  simp only [Option.some.injEq, Prod.mk.injEq] at H
  obtain ⟨rfl, rfl, rfl⟩ := H
  go_enter Tryz.func68, Tryz.ntmps68
  go_wp2_with (first | ((with_reducible refine gate_dst (N := 2) rfl ?_); refine box_event ?hg (N := 2) ?hd (cs := #[.string (⟨#[]⟩ : ByteArray), .string (⟨#[]⟩ : ByteArray)]) (t := 86) ?hr ?_; (case hd => rfl); (case hg => rfl); (case hr => first | (go_simp; done) | (go_simp; rfl)); intro gb221 hg w10 hbox hb; have BK221 := Aside0.mk (hbox); have GW221 : Aside0 (w.heap.size ≤ gb221) := gw_ hg; have GE221 : Aside0 (w.heap.size ≤ gb221) := gw_ hg; replace HB := Aside0.mk (below_step blw hb); clear hb hbox hg) | ((with_reducible refine gc 81 rfl ?_); refine gl_ (some 8) Tryz.func81 #[.string a0] ?_; (with_reducible refine (lex_Scan.calls k a0 t222 t223 _ A2.out).mono ?_); rintro e w11 ⟨v224, rfl, ho0, hb⟩; refine ⟨_, rfl, ?_⟩; have HO225 := Aside0.mk (Kd.R_lower ho0 (below_size blw)); replace BK221 := Aside0.mk (blk_below (g := gb221) (o := .cells #[.string (⟨#[]⟩ : ByteArray), .string (⟨#[]⟩ : ByteArray)] 86 (0, 0)) (bkw BK221) hb); replace HB := Aside0.mk (below_step blw hb); (try clear hb); (try clear ho0); have hcz12_0 : w11.cell? ⟨gb221, 0, none⟩ = some (.string (⟨#[]⟩ : ByteArray)) := bk_ BK221; have hcz12_1 : w11.cell? ⟨gb221, 1, none⟩ = some (.string (⟨#[]⟩ : ByteArray)) := bk_ BK221; have hfz12_0 := blk_frozen BK221.out 0; have hfz12_1 := blk_frozen BK221.out 1))
  refine bodyPost_ret (results_ct rfl _ _ gb221 86 #[.string (⟨#[]⟩ : ByteArray), .string (⟨#[]⟩ : ByteArray)] (0, 0) _ rfl (by (with_reducible repeat (first | refine blk_drewN ?_ _ | refine blk_drew ?_ | refine blk_alloc ?_ _)); refine blk_put (cs := #[.string (⟨#[]⟩ : ByteArray), .string (⟨#[]⟩ : ByteArray)]) ?_ 1 _ rfl; (with_reducible repeat (first | refine blk_drewN ?_ _ | refine blk_drew ?_ | refine blk_alloc ?_ _)); refine blk_put (cs := #[.string (⟨#[]⟩ : ByteArray), .string (⟨#[]⟩ : ByteArray)]) ?_ 0 _ rfl; (with_reducible repeat (first | refine blk_drewN ?_ _ | refine blk_drew ?_ | refine blk_alloc ?_ _)); exact BK221.out) Tryz.underlying86 rfl (by kernel_rfl)) rfl ?_
  exact ⟨by first | rfl | (simp [errW_none, errW_some] <;> rfl) | (simp [*, errW_none, errW_some] <;> rfl), blw⟩

/-! ### addr_Addr_Key: function 70 -/
def addr_Addr_Key.f (k : Nat) (a0_0 : ByteArray) (a0_1 : ByteArray) : Option (ByteArray) := (addr_Addr_Text.f k a0_0 a0_1).bind fun t230 => ((glyph_Fold.f t230).bind fun t231 => (some t231))
theorem addr_Addr_Key.mono : ∀ a0 a1 k, LeO (addr_Addr_Key.f k a0 a1) (addr_Addr_Key.f (k + 1) a0 a1) := by
  intro a0 a1 k
  unfold addr_Addr_Key.f
  repeat' first | (with_reducible first | exact addr_Addr_Text.mono _ _ _ | exact LeO.refl _ | exact LeO.none _ | refine LeO.ite ?_ ?_ | refine LeO.bind ?_ (fun _ => ?_)) | exact addr_Addr_Text.mono _ _ _ | exact LeO.none _ | refine LeO.ite ?_ ?_ | refine LeO.bind ?_ (fun _ => ?_)
set_option maxHeartbeats 8000000 in
set_option maxRecDepth 100000 in
theorem addr_Addr_Key.calls (k : Nat) (a0_0 : ByteArray) (a0_1 : ByteArray) (r : ByteArray) (w : World) (h : addr_Addr_Key.f k a0_0 a0_1 = some r) :
    Calls Tryz.prog 70 #[.agg #[.string a0_0, .string a0_1]] w fun e w' => e = .returned (.string r) ∧ Below w.heap.size w w' := by
 have hu86 := Tryz.underlying86
 have HB := Aside0.mk (Below.refl w.heap.size w)
 unfold addr_Addr_Key.f at h
 have H := h
 clear h
 replace H := Option.bind_eq_some_iff.mp H
 obtain ⟨t230, A20, H⟩ := H
 try dsimp only at H
 have A2 := Aside0.mk A20
 clear A20
 replace H := Option.bind_eq_some_iff.mp H
 obtain ⟨t231, A30, H⟩ := H
 try dsimp only at H
 have A3 := Aside0.mk A30
 clear A30
 obtain rfl := Option.some.inj H
 go_enter Tryz.func70, Tryz.ntmps70
 go_wp2_with (first | ((with_reducible refine gate_dst (N := 1) rfl ?_); refine box_event ?hg (N := 1) ?hd (cs := #[.string a0_0, .string a0_1]) (t := 86) ?hr ?_; (case hd => rfl); (case hg => rfl); (case hr => first | (go_simp; done) | (go_simp; rfl)); intro gb229 hg w4 hbox hb; have BK229 := Aside0.mk (hbox); have GW229 : Aside0 (w.heap.size ≤ gb229) := gw_ hg; have GE229 : Aside0 (w.heap.size ≤ gb229) := gw_ hg; replace HB := Aside0.mk (below_step blw hb); clear hb hbox hg; have hcz5_0 : w4.cell? ⟨gb229, 0, none⟩ = some (.string a0_0) := bk_ BK229; have hcz5_1 : w4.cell? ⟨gb229, 1, none⟩ = some (.string a0_1) := bk_ BK229; have hfz5_0 := blk_frozen BK229.out 0; have hfz5_1 := blk_frozen BK229.out 1) | ((with_reducible refine gc 83 rfl ?_); refine cl_ (some 4) Tryz.func83 (addr_Addr_Text.calls k a0_0 a0_1 t230 _ A2.out) ?_; rintro w6 hb; replace BK229 := Aside0.mk (blk_below (g := gb229) (o := .cells #[.string a0_0, .string a0_1] 86 (0, 0)) (bkw BK229) hb); replace HB := Aside0.mk (below_step blw hb); (try clear hb)) | ((with_reducible refine gc 69 rfl ?_); refine cl_ (some 5) Tryz.func69 (glyph_Fold.calls t230 t231 _ A3.out) ?_; rintro w7 hb; replace BK229 := Aside0.mk (blk_below (g := gb229) (o := .cells #[.string a0_0, .string a0_1] 86 (0, 0)) (bkw BK229) hb); replace HB := Aside0.mk (below_step blw hb); (try clear hb)))
 go_ret
 exact ⟨by first | rfl | (simp [errW_none, errW_some] <;> rfl) | (simp [*, errW_none, errW_some] <;> rfl), blw⟩

end Go.Proofs.YtcgfaagadejpmaaGreatDoor.Q
