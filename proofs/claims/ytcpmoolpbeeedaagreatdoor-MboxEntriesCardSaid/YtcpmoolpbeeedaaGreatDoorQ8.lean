-- Written by a program of this session (wip/myprint) out of the translation, for YtcpmoolpbeeedaaGreatDoor.
import Derived.Test.YtcpmoolpbeeedaaGreatDoorQ0
import Derived.Test.YtcpmoolpbeeedaaGreatDoorQ4
import Derived.Test.YtcpmoolpbeeedaaGreatDoorQ5
import Derived.Test.YtcpmoolpbeeedaaGreatDoorQ7
namespace Go.Proofs.YtcpmoolpbeeedaaGreatDoor.Q
open Go.RowKit Go.Proofs.YtcpmoolpbeeedaaGreatDoorW.PrintWords Go.Proofs.YtcpmoolpbeeedaaGreatDoorW.PrintLast Go.Proofs.YtcpmoolpbeeedaaGreatDoorW.PrintMore Go.Proofs.YtcpmoolpbeeedaaGreatDoorW.PrintSq
attribute [local go_sem] max2_int min2_int max_two min_two max_three min_three max_four min_four   -- for this text's walks alone
set_option linter.unusedVariables false
set_option linter.unusedSimpArgs false

/-! ### mbox_Entry: function 15 -/
def mbox_Entry.f (k : Nat) (a0_0 : ByteArray) (a0_1 : ByteArray) (a0_2 : Int) (a0_3 : ByteArray) : Option (ByteArray) := (addr_Addr_Text.f k a0_0 a0_1).bind fun t171 => (if 5 + t171.size ≤ 9223372036854775807 then (if 5 + t171.size + 1 ≤ 9223372036854775807 then ((date_Line.f k a0_2).bind fun t172 => (if 5 + t171.size + 1 + t172.size ≤ 9223372036854775807 then (if 5 + t171.size + 1 + t172.size + 2 ≤ 9223372036854775807 then ((mbox_Quote.f a0_3).bind fun t173 => (if 5 + t171.size + 1 + t172.size + 2 + t173.size ≤ 9223372036854775807 then (if a0_3.toList = ([] : List UInt8) then (if 5 + t171.size + 1 + t172.size + 2 + t173.size + 2 ≤ 9223372036854775807 then (some (((((((⟨#[70, 114, 111, 109, 32]⟩ : ByteArray) ++ t171) ++ (⟨#[32]⟩ : ByteArray)) ++ t172) ++ (⟨#[13, 10]⟩ : ByteArray)) ++ t173) ++ (⟨#[13, 10]⟩ : ByteArray))) else (none)) else ((strings_HasSuffix.f a0_3 (⟨#[13, 10]⟩ : ByteArray)).bind fun t174 => (if t174 = true then (if 5 + t171.size + 1 + t172.size + 2 + t173.size + 2 ≤ 9223372036854775807 then (some (((((((⟨#[70, 114, 111, 109, 32]⟩ : ByteArray) ++ t171) ++ (⟨#[32]⟩ : ByteArray)) ++ t172) ++ (⟨#[13, 10]⟩ : ByteArray)) ++ t173) ++ (⟨#[13, 10]⟩ : ByteArray))) else (none)) else (if 5 + t171.size + 1 + t172.size + 2 + t173.size + 2 ≤ 9223372036854775807 then (if 5 + t171.size + 1 + t172.size + 2 + t173.size + 2 + 2 ≤ 9223372036854775807 then (some ((((((((⟨#[70, 114, 111, 109, 32]⟩ : ByteArray) ++ t171) ++ (⟨#[32]⟩ : ByteArray)) ++ t172) ++ (⟨#[13, 10]⟩ : ByteArray)) ++ t173) ++ (⟨#[13, 10]⟩ : ByteArray)) ++ (⟨#[13, 10]⟩ : ByteArray))) else (none)) else (none))))) else (none))) else (none)) else (none))) else (none)) else (none))
theorem mbox_Entry.mono : ∀ a0 a1 a2 a3 k, LeO (mbox_Entry.f k a0 a1 a2 a3) (mbox_Entry.f (k + 1) a0 a1 a2 a3) := by
  intro a0 a1 a2 a3 k
  unfold mbox_Entry.f
  repeat' first | (with_reducible first | exact addr_Addr_Text.mono _ _ _ | exact date_Line.mono _ _ | exact LeO.refl _ | exact LeO.none _ | refine LeO.ite ?_ ?_ | refine LeO.bind ?_ (fun _ => ?_)) | exact addr_Addr_Text.mono _ _ _ | exact date_Line.mono _ _ | exact LeO.none _ | refine LeO.ite ?_ ?_ | refine LeO.bind ?_ (fun _ => ?_)
def mbox_Entry.T1 : Bool × List (List Nat × List Nat) := (true, [([], []), ([0], [0]), ([1], [1]), ([2], [2]), ([3], [3]), ([], []), ([5], [5]), ([6, 2], [6]), ([4, 7], [4, 7]), ([8], [8]), ([], []), ([10], [10]), ([11, 7], [11]), ([9, 12], [9, 12]), ([13, 12, 0, 1, 2, 3, 4, 5, 6, 7, 8, 9, 10, 11, 12, 13], [13])])
def mbox_Entry.B1 : List Nat := [0, 1, 3, 7, 15, 0, 32, 103, 255, 511, 0, 1024, 3303, 8191, 16383]
theorem mbox_Entry.tab1 : rtab .any (opsOf Tryz.f15 1) = mbox_Entry.T1 := by kernel_rfl
theorem mbox_Entry.bits1 : waitsOk mbox_Entry.T1.2 mbox_Entry.B1 = true := by kernel_rfl
set_option maxHeartbeats 8000000 in
set_option maxRecDepth 100000 in
theorem mbox_Entry.calls (k : Nat) (a0_0 : ByteArray) (a0_1 : ByteArray) (a0_2 : Int) (a0_3 : ByteArray) (r : ByteArray) (w : World) (hG : Amb w) (h : mbox_Entry.f k a0_0 a0_1 a0_2 a0_3 = some r) :
    Calls Tryz.prog 15 #[.agg #[.string a0_0, .string a0_1, .int .i64 a0_2, .string a0_3]] w fun e w' => e = .returned (.string r) ∧ Below w.heap.size w w' := by
 have hu34 := Tryz.underlying34
 have hu32 := Tryz.underlying32
 have HB := Aside0.mk (Below.refl w.heap.size w)
 unfold mbox_Entry.f at h
 have H := h
 clear h
 have HG := Aside0.mk hG
 clear hG
 replace H := Option.bind_eq_some_iff.mp H
 obtain ⟨t171, A20, H⟩ := H
 try dsimp only at H
 have A2 := Aside0.mk A20
 clear A20
 obtain ⟨c3, H⟩ := iteS H
 have c3b0 := eq_true c3
 have c3b1 := decide_eq_true c3
 try have c3b2 := eq_false (Nat.not_lt.2 c3)
 obtain ⟨c4, H⟩ := iteS H
 have c4b0 := eq_true c4
 have c4b1 := decide_eq_true c4
 try have c4b2 := eq_false (Nat.not_lt.2 c4)
 replace H := Option.bind_eq_some_iff.mp H
 obtain ⟨t172, A50, H⟩ := H
 try dsimp only at H
 have A5 := Aside0.mk A50
 clear A50
 obtain ⟨c6, H⟩ := iteS H
 have c6b0 := eq_true c6
 have c6b1 := decide_eq_true c6
 try have c6b2 := eq_false (Nat.not_lt.2 c6)
 obtain ⟨c7, H⟩ := iteS H
 have c7b0 := eq_true c7
 have c7b1 := decide_eq_true c7
 try have c7b2 := eq_false (Nat.not_lt.2 c7)
 replace H := Option.bind_eq_some_iff.mp H
 obtain ⟨t173, A80, H⟩ := H
 try dsimp only at H
 have A8 := Aside0.mk A80
 clear A80
 obtain ⟨c9, H⟩ := iteS H
 have c9b0 := eq_true c9
 have c9b1 := decide_eq_true c9
 try have c9b2 := eq_false (Nat.not_lt.2 c9)
 by_cases c10 : a0_3.toList = ([] : List UInt8)
 ·rw [if_pos c10] at H
  have c10b0 := beq_iff_eq.mpr c10
  have c10b1 := bne_eq_false_iff_eq.mpr c10
  clear c10
  obtain ⟨c11, H⟩ := iteS H
  have c11b0 := eq_true c11
  have c11b1 := decide_eq_true c11
  try have c11b2 := eq_false (Nat.not_lt.2 c11)
  obtain rfl := Option.some.inj H
  go_enter Tryz.func15, Tryz.ntmps15
  try go_wp2_with (first | ((with_reducible refine gate_dst (N := 1) rfl ?_); refine box_event ?hg (N := 1) ?hd (cs := #[.string a0_0, .string a0_1, .int .i64 a0_2, .string a0_3]) (t := 34) ?hr ?_; (case hd => rfl); (case hg => rfl); (case hr => first | (go_simp; done) | (go_simp; rfl)); intro gb170 hg w12 hbox hb; have BK170 := Aside0.mk (hbox); have GW170 : Aside0 (w.heap.size ≤ gb170) := gw_ hg; have GE170 : Aside0 (w.heap.size ≤ gb170) := gw_ hg; replace HB := Aside0.mk (below_step blw hb); clear hb hbox hg))
  replace BK170 := Aside0.mk (blk_drew BK170.out)
  replace HB := Aside0.mk (below_drew1 HB.out)
  refine start_ (n := 15) (S := fun w' => w'.cell? ⟨gb170, 0, none⟩ = some (.string a0_0) ∧ w'.cell? ⟨gb170, 1, none⟩ = some (.string a0_1) ∧ w'.cell? ⟨gb170, 2, none⟩ = some (.int .i64 a0_2) ∧ w'.cell? ⟨gb170, 3, none⟩ = some (.string a0_3)) (ds := []) (ba 15 0) (by kernel_rfl) rfl rfl ⟨bk_ BK170, bk_ BK170, bk_ BK170, bk_ BK170⟩ (fun hHeld => ?_); refine with_tabW mbox_Entry.tab1 mbox_Entry.bits1 (fun HT_ HW_ => ?_)
  generalize w12.drew = w13 at BK170 HB hHeld ⊢
  refine pu_ 0 4 1 ?_
  refine pu_ 5 9 33 ?_
  refine pu_ 10 14 1057 ?_
  refine tk_ 1 5 1059 hHeld ?_
  refine tk_ 6 10 1123 hHeld ?_
  refine tk_ 11 15 3171 hHeld ?_
  refine one1 2 (some 6) 3175 (fun K hK => ?_)
  refine go1 Tryz.func30 #[.agg #[.string a0_0, .string a0_1]] ?_
  with_reducible refine (addr_Addr_Text.calls k a0_0 a0_1 t171 _ A2.out).mono ?_
  rintro e w14 ⟨rfl, hb⟩
  refine ⟨_, rfl, ?_⟩
  replace BK170 := Aside0.mk (blk_below (g := gb170) (o := .cells #[.string a0_0, .string a0_1, .int .i64 a0_2, .string a0_3] 34 (0, 0)) (bkw BK170) hb)
  replace HB := Aside0.mk (below_step blw hb)
  (try clear hb)
  refine hK.out _ _ ⟨bk_ BK170, bk_ BK170, bk_ BK170, bk_ BK170⟩ (fun hHeld => ?_)
  clear hK K
  refine nm_ (some 6) ?_
  refine pu_ 3 7 3183 ?_
  refine pu_ 4 8 3199 ?_
  refine one1 7 (some 11) 3327 (fun K hK => ?_)
  refine go1 Tryz.func31 #[.int .i64 a0_2] ?_
  with_reducible refine (date_Line.calls k a0_2 t172 _ ?side1 A5.out).mono ?_
  (case side1 => exact Amb.at HG.out blw)
  rintro e w15 ⟨rfl, hb⟩
  refine ⟨_, rfl, ?_⟩
  replace BK170 := Aside0.mk (blk_below (g := gb170) (o := .cells #[.string a0_0, .string a0_1, .int .i64 a0_2, .string a0_3] 34 (0, 0)) (bkw BK170) hb)
  replace HB := Aside0.mk (below_step blw hb)
  (try clear hb)
  refine hK.out _ _ ⟨bk_ BK170, bk_ BK170, bk_ BK170, bk_ BK170⟩ (fun hHeld => ?_)
  clear hK K
  refine nm_ (some 11) ?_
  refine pu_ 8 12 3583 ?_
  refine pu_ 9 13 4095 ?_
  refine one1 12 (some 16) 8191 (fun K hK => ?_)
  refine go1 Tryz.func10 #[.string a0_3] ?_
  with_reducible refine (mbox_Quote.calls a0_3 t173 _ ?side1 A8.out).mono ?_
  (case side1 => exact Amb.at HG.out blw)
  rintro e w16 ⟨rfl, hb⟩
  refine ⟨_, rfl, ?_⟩
  replace BK170 := Aside0.mk (blk_below (g := gb170) (o := .cells #[.string a0_0, .string a0_1, .int .i64 a0_2, .string a0_3] 34 (0, 0)) (bkw BK170) hb)
  replace HB := Aside0.mk (below_step blw hb)
  (try clear hb)
  refine hK.out _ _ ⟨bk_ BK170, bk_ BK170, bk_ BK170, bk_ BK170⟩ (fun hHeld => ?_)
  clear hK K
  refine nm_ (some 16) ?_
  refine pu_ 13 17 16383 ?_
  refine pu_ 14 3 32767 ?_
  refine done_ (done_of HT_.out (by kernel_rfl)) ?_
  have hcz17_0 : w16.cell? ⟨gb170, 0, none⟩ = some (.string a0_0) := bk_ BK170
  have hcz17_1 : w16.cell? ⟨gb170, 1, none⟩ = some (.string a0_1) := bk_ BK170
  have hcz17_2 : w16.cell? ⟨gb170, 2, none⟩ = some (.int .i64 a0_2) := bk_ BK170
  have hcz17_3 : w16.cell? ⟨gb170, 3, none⟩ = some (.string a0_3) := bk_ BK170
  have hfz17_0 := blk_frozen BK170.out 0
  have hfz17_1 := blk_frozen BK170.out 1
  have hfz17_2 := blk_frozen BK170.out 2
  have hfz17_3 := blk_frozen BK170.out 3
  try go_wp2
  go_ret
  exact ⟨by first | rfl | (simp [errW_none, errW_some] <;> rfl) | (simp [*, errW_none, errW_some] <;> rfl), blw⟩
 ·rw [if_neg c10] at H
  have c10b0 := beq_eq_false_iff_ne.mpr c10
  have c10b1 := bne_iff_ne.mpr c10
  replace H := Option.bind_eq_some_iff.mp H
  obtain ⟨t174, A180, H⟩ := H
  try dsimp only at H
  have A18 := Aside0.mk A180
  clear A180
  by_cases c19 : t174 = true
  ·subst c19
   rw [if_pos rfl] at H
   obtain ⟨c20, H⟩ := iteS H
   have c20b0 := eq_true c20
   have c20b1 := decide_eq_true c20
   try have c20b2 := eq_false (Nat.not_lt.2 c20)
   obtain rfl := Option.some.inj H
   go_enter Tryz.func15, Tryz.ntmps15
   try go_wp2_with (first | ((with_reducible refine gate_dst (N := 1) rfl ?_); refine box_event ?hg (N := 1) ?hd (cs := #[.string a0_0, .string a0_1, .int .i64 a0_2, .string a0_3]) (t := 34) ?hr ?_; (case hd => rfl); (case hg => rfl); (case hr => first | (go_simp; done) | (go_simp; rfl)); intro gb170 hg w21 hbox hb; have BK170 := Aside0.mk (hbox); have GW170 : Aside0 (w.heap.size ≤ gb170) := gw_ hg; have GE170 : Aside0 (w.heap.size ≤ gb170) := gw_ hg; replace HB := Aside0.mk (below_step blw hb); clear hb hbox hg))
   replace BK170 := Aside0.mk (blk_drew BK170.out)
   replace HB := Aside0.mk (below_drew1 HB.out)
   refine start_ (n := 15) (S := fun w' => w'.cell? ⟨gb170, 0, none⟩ = some (.string a0_0) ∧ w'.cell? ⟨gb170, 1, none⟩ = some (.string a0_1) ∧ w'.cell? ⟨gb170, 2, none⟩ = some (.int .i64 a0_2) ∧ w'.cell? ⟨gb170, 3, none⟩ = some (.string a0_3)) (ds := []) (ba 15 0) (by kernel_rfl) rfl rfl ⟨bk_ BK170, bk_ BK170, bk_ BK170, bk_ BK170⟩ (fun hHeld => ?_); refine with_tabW mbox_Entry.tab1 mbox_Entry.bits1 (fun HT_ HW_ => ?_)
   generalize w21.drew = w22 at BK170 HB hHeld ⊢
   refine pu_ 0 4 1 ?_
   refine pu_ 5 9 33 ?_
   refine pu_ 10 14 1057 ?_
   refine tk_ 1 5 1059 hHeld ?_
   refine tk_ 6 10 1123 hHeld ?_
   refine tk_ 11 15 3171 hHeld ?_
   refine one1 2 (some 6) 3175 (fun K hK => ?_)
   refine go1 Tryz.func30 #[.agg #[.string a0_0, .string a0_1]] ?_
   with_reducible refine (addr_Addr_Text.calls k a0_0 a0_1 t171 _ A2.out).mono ?_
   rintro e w23 ⟨rfl, hb⟩
   refine ⟨_, rfl, ?_⟩
   replace BK170 := Aside0.mk (blk_below (g := gb170) (o := .cells #[.string a0_0, .string a0_1, .int .i64 a0_2, .string a0_3] 34 (0, 0)) (bkw BK170) hb)
   replace HB := Aside0.mk (below_step blw hb)
   (try clear hb)
   refine hK.out _ _ ⟨bk_ BK170, bk_ BK170, bk_ BK170, bk_ BK170⟩ (fun hHeld => ?_)
   clear hK K
   refine nm_ (some 6) ?_
   refine pu_ 3 7 3183 ?_
   refine pu_ 4 8 3199 ?_
   refine one1 7 (some 11) 3327 (fun K hK => ?_)
   refine go1 Tryz.func31 #[.int .i64 a0_2] ?_
   with_reducible refine (date_Line.calls k a0_2 t172 _ ?side1 A5.out).mono ?_
   (case side1 => exact Amb.at HG.out blw)
   rintro e w24 ⟨rfl, hb⟩
   refine ⟨_, rfl, ?_⟩
   replace BK170 := Aside0.mk (blk_below (g := gb170) (o := .cells #[.string a0_0, .string a0_1, .int .i64 a0_2, .string a0_3] 34 (0, 0)) (bkw BK170) hb)
   replace HB := Aside0.mk (below_step blw hb)
   (try clear hb)
   refine hK.out _ _ ⟨bk_ BK170, bk_ BK170, bk_ BK170, bk_ BK170⟩ (fun hHeld => ?_)
   clear hK K
   refine nm_ (some 11) ?_
   refine pu_ 8 12 3583 ?_
   refine pu_ 9 13 4095 ?_
   refine one1 12 (some 16) 8191 (fun K hK => ?_)
   refine go1 Tryz.func10 #[.string a0_3] ?_
   with_reducible refine (mbox_Quote.calls a0_3 t173 _ ?side1 A8.out).mono ?_
   (case side1 => exact Amb.at HG.out blw)
   rintro e w25 ⟨rfl, hb⟩
   refine ⟨_, rfl, ?_⟩
   replace BK170 := Aside0.mk (blk_below (g := gb170) (o := .cells #[.string a0_0, .string a0_1, .int .i64 a0_2, .string a0_3] 34 (0, 0)) (bkw BK170) hb)
   replace HB := Aside0.mk (below_step blw hb)
   (try clear hb)
   refine hK.out _ _ ⟨bk_ BK170, bk_ BK170, bk_ BK170, bk_ BK170⟩ (fun hHeld => ?_)
   clear hK K
   refine nm_ (some 16) ?_
   refine pu_ 13 17 16383 ?_
   refine pu_ 14 3 32767 ?_
   refine done_ (done_of HT_.out (by kernel_rfl)) ?_
   have hcz26_0 : w25.cell? ⟨gb170, 0, none⟩ = some (.string a0_0) := bk_ BK170
   have hcz26_1 : w25.cell? ⟨gb170, 1, none⟩ = some (.string a0_1) := bk_ BK170
   have hcz26_2 : w25.cell? ⟨gb170, 2, none⟩ = some (.int .i64 a0_2) := bk_ BK170
   have hcz26_3 : w25.cell? ⟨gb170, 3, none⟩ = some (.string a0_3) := bk_ BK170
   have hfz26_0 := blk_frozen BK170.out 0
   have hfz26_1 := blk_frozen BK170.out 1
   have hfz26_2 := blk_frozen BK170.out 2
   have hfz26_3 := blk_frozen BK170.out 3
   try go_wp2_with (first | (go_at_call 32; (with_reducible refine (strings_HasSuffix.calls a0_3 (⟨#[13, 10]⟩ : ByteArray) true _ A18.out).mono ?_); rintro e w' ⟨rfl, ⟨nd, rfl⟩⟩))
   go_ret
   exact ⟨by first | rfl | (simp [errW_none, errW_some] <;> rfl) | (simp [*, errW_none, errW_some] <;> rfl), blw⟩
  ·replace c19 := Bool.eq_false_iff.mpr c19
   subst c19
   rw [if_neg nft] at H
   obtain ⟨c27, H⟩ := iteS H
   have c27b0 := eq_true c27
   have c27b1 := decide_eq_true c27
   try have c27b2 := eq_false (Nat.not_lt.2 c27)
   obtain ⟨c28, H⟩ := iteS H
   have c28b0 := eq_true c28
   have c28b1 := decide_eq_true c28
   try have c28b2 := eq_false (Nat.not_lt.2 c28)
   obtain rfl := Option.some.inj H
   go_enter Tryz.func15, Tryz.ntmps15
   try go_wp2_with (first | ((with_reducible refine gate_dst (N := 1) rfl ?_); refine box_event ?hg (N := 1) ?hd (cs := #[.string a0_0, .string a0_1, .int .i64 a0_2, .string a0_3]) (t := 34) ?hr ?_; (case hd => rfl); (case hg => rfl); (case hr => first | (go_simp; done) | (go_simp; rfl)); intro gb170 hg w29 hbox hb; have BK170 := Aside0.mk (hbox); have GW170 : Aside0 (w.heap.size ≤ gb170) := gw_ hg; have GE170 : Aside0 (w.heap.size ≤ gb170) := gw_ hg; replace HB := Aside0.mk (below_step blw hb); clear hb hbox hg))
   replace BK170 := Aside0.mk (blk_drew BK170.out)
   replace HB := Aside0.mk (below_drew1 HB.out)
   refine start_ (n := 15) (S := fun w' => w'.cell? ⟨gb170, 0, none⟩ = some (.string a0_0) ∧ w'.cell? ⟨gb170, 1, none⟩ = some (.string a0_1) ∧ w'.cell? ⟨gb170, 2, none⟩ = some (.int .i64 a0_2) ∧ w'.cell? ⟨gb170, 3, none⟩ = some (.string a0_3)) (ds := []) (ba 15 0) (by kernel_rfl) rfl rfl ⟨bk_ BK170, bk_ BK170, bk_ BK170, bk_ BK170⟩ (fun hHeld => ?_); refine with_tabW mbox_Entry.tab1 mbox_Entry.bits1 (fun HT_ HW_ => ?_)
   generalize w29.drew = w30 at BK170 HB hHeld ⊢
   refine pu_ 0 4 1 ?_
   refine pu_ 5 9 33 ?_
   refine pu_ 10 14 1057 ?_
   refine tk_ 1 5 1059 hHeld ?_
   refine tk_ 6 10 1123 hHeld ?_
   refine tk_ 11 15 3171 hHeld ?_
   refine one1 2 (some 6) 3175 (fun K hK => ?_)
   refine go1 Tryz.func30 #[.agg #[.string a0_0, .string a0_1]] ?_
   with_reducible refine (addr_Addr_Text.calls k a0_0 a0_1 t171 _ A2.out).mono ?_
   rintro e w31 ⟨rfl, hb⟩
   refine ⟨_, rfl, ?_⟩
   replace BK170 := Aside0.mk (blk_below (g := gb170) (o := .cells #[.string a0_0, .string a0_1, .int .i64 a0_2, .string a0_3] 34 (0, 0)) (bkw BK170) hb)
   replace HB := Aside0.mk (below_step blw hb)
   (try clear hb)
   refine hK.out _ _ ⟨bk_ BK170, bk_ BK170, bk_ BK170, bk_ BK170⟩ (fun hHeld => ?_)
   clear hK K
   refine nm_ (some 6) ?_
   refine pu_ 3 7 3183 ?_
   refine pu_ 4 8 3199 ?_
   refine one1 7 (some 11) 3327 (fun K hK => ?_)
   refine go1 Tryz.func31 #[.int .i64 a0_2] ?_
   with_reducible refine (date_Line.calls k a0_2 t172 _ ?side1 A5.out).mono ?_
   (case side1 => exact Amb.at HG.out blw)
   rintro e w32 ⟨rfl, hb⟩
   refine ⟨_, rfl, ?_⟩
   replace BK170 := Aside0.mk (blk_below (g := gb170) (o := .cells #[.string a0_0, .string a0_1, .int .i64 a0_2, .string a0_3] 34 (0, 0)) (bkw BK170) hb)
   replace HB := Aside0.mk (below_step blw hb)
   (try clear hb)
   refine hK.out _ _ ⟨bk_ BK170, bk_ BK170, bk_ BK170, bk_ BK170⟩ (fun hHeld => ?_)
   clear hK K
   refine nm_ (some 11) ?_
   refine pu_ 8 12 3583 ?_
   refine pu_ 9 13 4095 ?_
   refine one1 12 (some 16) 8191 (fun K hK => ?_)
   refine go1 Tryz.func10 #[.string a0_3] ?_
   with_reducible refine (mbox_Quote.calls a0_3 t173 _ ?side1 A8.out).mono ?_
   (case side1 => exact Amb.at HG.out blw)
   rintro e w33 ⟨rfl, hb⟩
   refine ⟨_, rfl, ?_⟩
   replace BK170 := Aside0.mk (blk_below (g := gb170) (o := .cells #[.string a0_0, .string a0_1, .int .i64 a0_2, .string a0_3] 34 (0, 0)) (bkw BK170) hb)
   replace HB := Aside0.mk (below_step blw hb)
   (try clear hb)
   refine hK.out _ _ ⟨bk_ BK170, bk_ BK170, bk_ BK170, bk_ BK170⟩ (fun hHeld => ?_)
   clear hK K
   refine nm_ (some 16) ?_
   refine pu_ 13 17 16383 ?_
   refine pu_ 14 3 32767 ?_
   refine done_ (done_of HT_.out (by kernel_rfl)) ?_
   have hcz34_0 : w33.cell? ⟨gb170, 0, none⟩ = some (.string a0_0) := bk_ BK170
   have hcz34_1 : w33.cell? ⟨gb170, 1, none⟩ = some (.string a0_1) := bk_ BK170
   have hcz34_2 : w33.cell? ⟨gb170, 2, none⟩ = some (.int .i64 a0_2) := bk_ BK170
   have hcz34_3 : w33.cell? ⟨gb170, 3, none⟩ = some (.string a0_3) := bk_ BK170
   have hfz34_0 := blk_frozen BK170.out 0
   have hfz34_1 := blk_frozen BK170.out 1
   have hfz34_2 := blk_frozen BK170.out 2
   have hfz34_3 := blk_frozen BK170.out 3
   try go_wp2_with (first | (go_at_call 32; (with_reducible refine (strings_HasSuffix.calls a0_3 (⟨#[13, 10]⟩ : ByteArray) false _ A18.out).mono ?_); rintro e w' ⟨rfl, ⟨nd, rfl⟩⟩))
   go_ret
   exact ⟨by first | rfl | (simp [errW_none, errW_some] <;> rfl) | (simp [*, errW_none, errW_some] <;> rfl), blw⟩

/-! ### strings_Index: function 66 -/
def strings_Index.f (a0 : ByteArray) (a1 : ByteArray) : Option (Int) := if a0.size < 4294967281 then (some (Lib.index a0.data.toList a1.data.toList)) else none
theorem strings_Index.calls (a0 : ByteArray) (a1 : ByteArray) (r : Int) (w : World) (hG : Amb w) (h : strings_Index.f a0 a1 = some r) :
    Calls Tryz.prog 66 #[.string a0, .string a1] w fun e w' => e = .returned (.int .i64 r) ∧ Drawn0 w w' := by
 unfold strings_Index.f at h
 by_cases h0 : a0.size < 4294967281
 ·rw [if_pos h0] at h
  obtain rfl := Option.some.inj h
  obtain ⟨m, hm⟩ := hG.mx
  refine (Tryz.strings_Index a0 a1 m w h0 hm).mono ?_
  rintro e w' ⟨rfl, rfl⟩
  exact ⟨rfl, Drawn0.refl _⟩
 ·rw [if_neg h0] at h
  cases h

/-! ### mbox_cut: function 40 -/
def mbox_cut.f (a0 : ByteArray) : Option (Int) := (strings_Index.f a0 (⟨#[13, 10, 70, 114, 111, 109, 32]⟩ : ByteArray)).bind fun t175 => (if t175 ≥ 0 then (none) else (some (a0.size : Int)))
set_option maxHeartbeats 8000000 in
set_option maxRecDepth 100000 in
theorem mbox_cut.calls (a0 : ByteArray) (r : Int) (w : World) (hG : Amb w) (h : mbox_cut.f a0 = some r) :
    Calls Tryz.prog 40 #[.string a0] w fun e w' => e = .returned (.int .i64 r) ∧ Drawn0 w w' := by
 unfold mbox_cut.f at h
 have H := h
 clear h
 have HG := Aside0.mk hG
 clear hG
 replace H := Option.bind_eq_some_iff.mp H
 obtain ⟨t175, A20, H⟩ := H
 try dsimp only at H
 have A2 := Aside0.mk A20
 clear A20
 obtain ⟨c3, H⟩ := iteN H
 have c3b0 : decide (0 ≤ t175) = false := decide_eq_false c3
 clear c3
 obtain rfl := Option.some.inj H
 go_enter Tryz.func40, Tryz.ntmps40
 go_wp2_with (first | ((with_reducible refine gc 66 rfl ?_); refine cl_ (some 5) Tryz.func66 (strings_Index.calls a0 (⟨#[13, 10, 70, 114, 111, 109, 32]⟩ : ByteArray) t175 _ (Amb.drawn HG.out drw) A2.out) ?_; rintro w' ⟨nd, rfl⟩))
 go_ret
 exact ⟨eqs, drw⟩

/-! ### stringslite_CutPrefix: function 47 -/
def stringslite_CutPrefix.f (a0 : ByteArray) (a1 : ByteArray) : Option (ByteArray × Bool) := (stringslite_HasPrefix.f a0 a1).bind fun t176 => (if t176 = true then (if 0 ≤ (a1.size : Int) then (if (a1.size : Int) ≤ (a0.size : Int) then (some (a0.extract ((a1.size : Int) : Int).toNat a0.size, true)) else (none)) else (none)) else (some (a0, false)))
set_option maxHeartbeats 8000000 in
set_option maxRecDepth 100000 in
theorem stringslite_CutPrefix.calls (a0 : ByteArray) (a1 : ByteArray) (r1 : ByteArray) (r2 : Bool) (w : World) (h : stringslite_CutPrefix.f a0 a1 = some (r1, r2)) :
    Calls Tryz.prog 47 #[.string a0, .string a1] w fun e w' => e = .returned (.tuple #[.string r1, .bool r2]) ∧ Drawn0 w w' := by
 unfold stringslite_CutPrefix.f at h
 have H := h
 clear h
 replace H := Option.bind_eq_some_iff.mp H
 obtain ⟨t176, A30, H⟩ := H
 try dsimp only at H
 have A3 := Aside0.mk A30
 clear A30
 by_cases c4 : t176 = true
 ·subst c4
  rw [if_pos rfl] at H
  obtain ⟨c5, H⟩ := iteS H
  have c5b0 := eq_true c5
  have c5b1 := decide_eq_true c5
  clear c5
  obtain ⟨c6, H⟩ := iteS H
  have c6b0 := eq_true c6
  have c6b1 := decide_eq_true c6
  clear c6
  simp only [Option.some.injEq, Prod.mk.injEq] at H
  obtain ⟨rfl, rfl⟩ := H
  go_enter Tryz.func47, Tryz.ntmps47
  go_wp2_with (first | ((with_reducible refine gc 76 rfl ?_); refine cl_ (some 8) Tryz.func76 (stringslite_HasPrefix.calls a0 a1 true _ A3.out) ?_; rintro w' ⟨nd, rfl⟩))
  go_ret2
  exact ⟨eqs, drw⟩
 ·replace c4 := Bool.eq_false_iff.mpr c4
  subst c4
  rw [if_neg nft] at H
  simp only [Option.some.injEq, Prod.mk.injEq] at H
  obtain ⟨rfl, rfl⟩ := H
  go_enter Tryz.func47, Tryz.ntmps47
  go_wp2_with (first | ((with_reducible refine gc 76 rfl ?_); refine cl_ (some 8) Tryz.func76 (stringslite_HasPrefix.calls a0 a1 false _ A3.out) ?_; rintro w' ⟨nd, rfl⟩))
  go_ret2
  exact ⟨eqs, drw⟩

/-! ### strings_CutPrefix: function 29 -/
def strings_CutPrefix.f (a0 : ByteArray) (a1 : ByteArray) : Option (ByteArray × Bool) := (stringslite_CutPrefix.f a0 a1).bind fun bt177 => (some (bt177.1, bt177.2))
set_option maxHeartbeats 8000000 in
set_option maxRecDepth 100000 in
theorem strings_CutPrefix.calls (a0 : ByteArray) (a1 : ByteArray) (r1 : ByteArray) (r2 : Bool) (w : World) (h : strings_CutPrefix.f a0 a1 = some (r1, r2)) :
    Calls Tryz.prog 29 #[.string a0, .string a1] w fun e w' => e = .returned (.tuple #[.string r1, .bool r2]) ∧ Drawn0 w w' := by
 unfold strings_CutPrefix.f at h
 have H := h
 clear h
 replace H := Option.bind_eq_some_iff.mp H
 obtain ⟨⟨t177, t178⟩, A30, H⟩ := H
 try dsimp only at H
 have A3 := Aside0.mk A30
 clear A30
 simp only [Option.some.injEq, Prod.mk.injEq] at H
 obtain ⟨rfl, rfl⟩ := H
 go_enter Tryz.func29, Tryz.ntmps29
 go_wp2_with (first | ((with_reducible refine gc 47 rfl ?_); refine cl_ (some 8) Tryz.func47 (stringslite_CutPrefix.calls a0 a1 t177 t178 _ A3.out) ?_; rintro w' ⟨nd, rfl⟩))
 go_ret2
 exact ⟨eqs, drw⟩

/-! ### mbox_Unquote_1: function 28 -/
def mbox_Unquote_1.f (a0 : ByteArray) : Option (ByteArray) := (strings_CutPrefix.f a0 (⟨#[62]⟩ : ByteArray)).bind fun bt179 => (if bt179.2 = true then ((mbox_marked.f a0).bind fun t181 => (if t181 = true then (some bt179.1) else (some a0))) else (some a0))
set_option maxHeartbeats 8000000 in
set_option maxRecDepth 100000 in
theorem mbox_Unquote_1.calls (a0 : ByteArray) (r : ByteArray) (w : World) (h : mbox_Unquote_1.f a0 = some r) :
    Calls Tryz.prog 28 #[.string a0] w fun e w' => e = .returned (.string r) ∧ Drawn0 w w' := by
 unfold mbox_Unquote_1.f at h
 have H := h
 clear h
 replace H := Option.bind_eq_some_iff.mp H
 obtain ⟨⟨t179, t180⟩, A20, H⟩ := H
 try dsimp only at H
 have A2 := Aside0.mk A20
 clear A20
 by_cases c3 : t180 = true
 ·subst c3
  rw [if_pos rfl] at H
  replace H := Option.bind_eq_some_iff.mp H
  obtain ⟨t181, A40, H⟩ := H
  try dsimp only at H
  have A4 := Aside0.mk A40
  clear A40
  by_cases c5 : t181 = true
  ·subst c5
   rw [if_pos rfl] at H
   obtain rfl := Option.some.inj H
   go_enter Tryz.func28, Tryz.ntmps28
   go_wp2_with (first | ((with_reducible refine gc 29 rfl ?_); refine cl_ (some 7) Tryz.func29 (strings_CutPrefix.calls a0 (⟨#[62]⟩ : ByteArray) t179 true _ A2.out) ?_; rintro w' ⟨nd, rfl⟩) | (go_at_call 25; (with_reducible refine (mbox_marked.calls a0 true _ A4.out).mono ?_); rintro e w' ⟨rfl, ⟨nd, rfl⟩⟩))
   go_ret
   exact ⟨eqs, drw⟩
  ·replace c5 := Bool.eq_false_iff.mpr c5
   subst c5
   rw [if_neg nft] at H
   obtain rfl := Option.some.inj H
   go_enter Tryz.func28, Tryz.ntmps28
   go_wp2_with (first | ((with_reducible refine gc 29 rfl ?_); refine cl_ (some 7) Tryz.func29 (strings_CutPrefix.calls a0 (⟨#[62]⟩ : ByteArray) t179 true _ A2.out) ?_; rintro w' ⟨nd, rfl⟩) | (go_at_call 25; (with_reducible refine (mbox_marked.calls a0 false _ A4.out).mono ?_); rintro e w' ⟨rfl, ⟨nd, rfl⟩⟩))
   go_ret
   exact ⟨eqs, drw⟩
 ·replace c3 := Bool.eq_false_iff.mpr c3
  subst c3
  rw [if_neg nft] at H
  obtain rfl := Option.some.inj H
  go_enter Tryz.func28, Tryz.ntmps28
  go_wp2_with (first | ((with_reducible refine gc 29 rfl ?_); refine cl_ (some 7) Tryz.func29 (strings_CutPrefix.calls a0 (⟨#[62]⟩ : ByteArray) t179 false _ A2.out) ?_; rintro w' ⟨nd, rfl⟩))
  go_ret
  exact ⟨eqs, drw⟩

end Go.Proofs.YtcpmoolpbeeedaaGreatDoor.Q
