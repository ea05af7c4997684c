-- Written by a program of this session (wip/myprint) out of the translation, for YtcgfaagadejpmaaGreatDoor.
import Derived.Test.YtcgfaagadejpmaaGreatDoorQ0
import Derived.Test.YtcgfaagadejpmaaGreatDoorQ3
import Derived.Test.YtcgfaagadejpmaaGreatDoorQ6
import Derived.Test.YtcgfaagadejpmaaGreatDoorQ10
import Derived.Test.YtcgfaagadejpmaaGreatDoorQ12
namespace Go.Proofs.YtcgfaagadejpmaaGreatDoor.Q
open Go.RowKit Go.Proofs.YtcgfaagadejpmaaGreatDoorW.PrintWords Go.Proofs.YtcgfaagadejpmaaGreatDoorW.PrintLast Go.Proofs.YtcgfaagadejpmaaGreatDoorW.PrintMore Go.Proofs.YtcgfaagadejpmaaGreatDoorW.PrintSq
attribute [local go_sem] max2_int min2_int max_two min_two max_three min_three max_four min_four   -- for this text's walks alone
set_option linter.unusedVariables false
set_option linter.unusedSimpArgs false

/-! ### addr_Strict: function 56 -/
def addr_Strict.f (k : Nat) (a0 : ByteArray) : Option (ByteArray × ByteArray × Int) := (addr_Parse.f k a0).bind fun bt233 => (if bt233.2.2 = 0 then ((glyph_Fold.f a0).bind fun t237 => ((addr_Addr_Key.f k bt233.1 bt233.2.1).bind fun t238 => (if t237.toList = t238.toList then (some (bt233.1, bt233.2.1, bt233.2.2)) else (some ((⟨#[]⟩ : ByteArray), (⟨#[]⟩ : ByteArray), 130))))) else (some (bt233.1, bt233.2.1, bt233.2.2)))
theorem addr_Strict.mono : ∀ a0 k, LeO (addr_Strict.f k a0) (addr_Strict.f (k + 1) a0) := by
  intro a0 k
  unfold addr_Strict.f
  repeat' first | (with_reducible first | exact addr_Addr_Key.mono _ _ _ | exact addr_Parse.mono _ _ | exact LeO.refl _ | exact LeO.none _ | refine LeO.ite ?_ ?_ | refine LeO.bind ?_ (fun _ => ?_)) | exact addr_Addr_Key.mono _ _ _ | exact addr_Parse.mono _ _ | exact LeO.none _ | refine LeO.ite ?_ ?_ | refine LeO.bind ?_ (fun _ => ?_)
def addr_Strict.T2 : Bool × List (List Nat × List Nat) := (true, [([], []), ([0], [0]), ([1], [1]), ([2], [2]), ([3, 2, 2], [2, 3]), ([2], [2]), ([5, 4, 2], [2, 5]), ([4, 6, 2], [2, 4, 6]), ([2, 7], [2, 7])])
def addr_Strict.B2 : List Nat := [0, 1, 3, 7, 15, 7, 63, 127, 255]
theorem addr_Strict.tab2 : rtab .any (opsOf Tryz.f56 2) = addr_Strict.T2 := by kernel_rfl
theorem addr_Strict.bits2 : waitsOk addr_Strict.T2.2 addr_Strict.B2 = true := by kernel_rfl
set_option maxHeartbeats 8000000 in
set_option maxRecDepth 100000 in
theorem addr_Strict.calls (k : Nat) (a0 : ByteArray) (r1 : ByteArray) (r2 : ByteArray) (r3 : Int) (w : World) (h : addr_Strict.f k a0 = some (r1, r2, r3)) :
    Calls Tryz.prog 56 #[.string a0] w fun e w' => e = .returned (.tuple #[.agg #[.string r1, .string r2], .int .i64 r3]) ∧ Below w.heap.size w w' := by
 have hu86 := Tryz.underlying86
 have HB := Aside0.mk (Below.refl w.heap.size w)
 unfold addr_Strict.f at h
 have H := h
 clear h
 replace H := Option.bind_eq_some_iff.mp H
 obtain ⟨⟨t233, t234, t235⟩, A20, H⟩ := H
 try dsimp only at H
 have A2 := Aside0.mk A20
 clear A20
 by_cases c3 : t235 = 0
 ·rw [if_pos c3] at H
  have c3b0 := beq_iff_eq.mpr c3
  have c3b1 := bne_eq_false_iff_eq.mpr c3
  clear c3
  replace H := Option.bind_eq_some_iff.mp H
  obtain ⟨t237, A40, H⟩ := H
  try dsimp only at H
  have A4 := Aside0.mk A40
  clear A40
  replace H := Option.bind_eq_some_iff.mp H
  obtain ⟨t238, A50, H⟩ := H
  try dsimp only at H
  have A5 := Aside0.mk A50
  clear A50
  by_cases c6 : t237.toList = t238.toList
  ·rw [if_pos c6] at H
   have c6b0 := beq_iff_eq.mpr c6
   have c6b1 := bne_eq_false_iff_eq.mpr c6
   clear c6
   simp only [Option.some.injEq, Prod.mk.injEq] at H
   obtain ⟨rfl, rfl, rfl⟩ := H
   go_enter Tryz.func56, Tryz.ntmps56
   try go_wp2_with (first | ((with_reducible refine gate_dst (N := 2) rfl ?_); refine box_event ?hg (N := 2) ?hd (cs := #[.string (⟨#[]⟩ : ByteArray), .string (⟨#[]⟩ : ByteArray)]) (t := 86) ?hr ?_; (case hd => rfl); (case hg => rfl); (case hr => first | (go_simp; done) | (go_simp; rfl)); intro gb232 hg w7 hbox hb; have BK232 := Aside0.mk (hbox); have GW232 : Aside0 (w.heap.size ≤ gb232) := gw_ hg; have GE232 : Aside0 (w.heap.size ≤ gb232) := gw_ hg; replace HB := Aside0.mk (below_step blw hb); clear hb hbox hg) | ((with_reducible refine gc 68 rfl ?_); refine cl_ (some 8) Tryz.func68 (addr_Parse.calls k a0 t233 t234 t235 _ A2.out) ?_; rintro w8 hb; replace BK232 := Aside0.mk (blk_below (g := gb232) (o := .cells #[.string (⟨#[]⟩ : ByteArray), .string (⟨#[]⟩ : ByteArray)] 86 (0, 0)) (bkw BK232) hb); replace HB := Aside0.mk (below_step blw hb); (try clear hb)) | ((with_reducible refine gate_dst (N := 4) rfl ?_); refine box_event ?hg (N := 4) ?hd (cs := #[.string (⟨#[]⟩ : ByteArray), .string (⟨#[]⟩ : ByteArray)]) (t := 86) ?hr ?_; (case hd => rfl); (case hg => rfl); (case hr => first | (go_simp; done) | (go_simp; rfl)); intro gb236 hg w9 hbox hb; have BK236 := Aside0.mk (hbox); have GW236 : Aside0 (w.heap.size ≤ gb236) := gw_ hg; have GE236 : Aside0 (w.heap.size ≤ gb236) := gw_ hg; replace HB := Aside0.mk (below_step blw hb); have NB232_236 := Aside0.mk ((by rw [hg]; exact Nat.ne_of_lt (blk_lt (g := gb232) (o := .cells #[.string (⟨#[]⟩ : ByteArray), .string (⟨#[]⟩ : ByteArray)] 86 (0, 0)) (bkw BK232)) : gb232 ≠ gb236)); have NB236_232 := Aside0.mk ((by rw [hg]; exact Nat.ne_of_gt (blk_lt (g := gb232) (o := .cells #[.string (⟨#[]⟩ : ByteArray), .string (⟨#[]⟩ : ByteArray)] 86 (0, 0)) (bkw BK232)) : gb236 ≠ gb232)); replace BK232 := Aside0.mk (blk_below (g := gb232) (o := .cells #[.string (⟨#[]⟩ : ByteArray), .string (⟨#[]⟩ : ByteArray)] 86 (0, 0)) (bkw BK232) hb); clear hb hbox hg; have hnb10 := NB236_232.out; have hnc10 := NB232_236.out; have hcz11_0 : w9.cell? ⟨gb236, 0, none⟩ = some (.string (⟨#[]⟩ : ByteArray)) := bk_ BK236; have hcz11_1 : w9.cell? ⟨gb236, 1, none⟩ = some (.string (⟨#[]⟩ : ByteArray)) := bk_ BK236; have hfz11_0 := blk_frozen BK236.out 0; have hfz11_1 := blk_frozen BK236.out 1))
   have n0_ : Aside0 (((w9.setCell ⟨gb236, 0, none⟩ (.string t233)).setCell ⟨gb236, 1, none⟩ (.string t234)).heap[gb232]? = some (.cells #[.string (⟨#[]⟩ : ByteArray), .string (⟨#[]⟩ : ByteArray)] 86 (0, 0))) := ⟨by (with_reducible repeat (first | refine blk_drewN ?_ _ | refine blk_drew ?_ | refine blk_alloc ?_ _)); refine blk_far ?_ NB232_236.out _; (with_reducible repeat (first | refine blk_drewN ?_ _ | refine blk_drew ?_ | refine blk_alloc ?_ _)); refine blk_far ?_ NB232_236.out _; (with_reducible repeat (first | refine blk_drewN ?_ _ | refine blk_drew ?_ | refine blk_alloc ?_ _)); exact BK232.out⟩
   have n1_ : Aside0 (((w9.setCell ⟨gb236, 0, none⟩ (.string t233)).setCell ⟨gb236, 1, none⟩ (.string t234)).heap[gb236]? = some (.cells #[.string t233, .string t234] 86 (0, 0))) := ⟨by (with_reducible repeat (first | refine blk_drewN ?_ _ | refine blk_drew ?_ | refine blk_alloc ?_ _)); refine blk_put (cs := #[.string t233, .string (⟨#[]⟩ : ByteArray)]) ?_ 1 _ rfl; (with_reducible repeat (first | refine blk_drewN ?_ _ | refine blk_drew ?_ | refine blk_alloc ?_ _)); refine blk_put (cs := #[.string (⟨#[]⟩ : ByteArray), .string (⟨#[]⟩ : ByteArray)]) ?_ 0 _ rfl; (with_reducible repeat (first | refine blk_drewN ?_ _ | refine blk_drew ?_ | refine blk_alloc ?_ _)); exact BK236.out⟩
   have n2_ : Aside0 (Below w.heap.size w ((w9.setCell ⟨gb236, 0, none⟩ (.string t233)).setCell ⟨gb236, 1, none⟩ (.string t234))) := ⟨blw⟩
   (try clear BK232)
   (try clear BK236)
   (try clear HB)
   generalize ((w9.setCell ⟨gb236, 0, none⟩ (.string t233)).setCell ⟨gb236, 1, none⟩ (.string t234)) = w12 at n0_ n1_ n2_ ⊢
   have BK232 := n0_
   have BK236 := n1_
   have HB := n2_
   clear n0_ n1_ n2_
   replace BK232 := Aside0.mk (blk_drew BK232.out)
   replace BK236 := Aside0.mk (blk_drew BK236.out)
   replace HB := Aside0.mk (below_drew1 HB.out)
   refine start_ (n := 9) (S := fun w' => w'.cell? ⟨gb236, 0, none⟩ = some (.string t233) ∧ w'.cell? ⟨gb236, 1, none⟩ = some (.string t234)) (ds := []) (ba 9 0) (by kernel_rfl) rfl rfl ⟨bk_ BK236, bk_ BK236⟩ (fun hHeld => ?_); refine with_tabW addr_Strict.tab2 addr_Strict.bits2 (fun HT_ HW_ => ?_)
   generalize w12.drew = w13 at BK232 BK236 HB hHeld ⊢
   refine pu_ 0 11 1 ?_
   refine pu_ 1 12 3 ?_
   refine pu_ 2 13 7 ?_
   refine pu_ 3 14 15 ?_
   refine tk_ 5 16 47 hHeld ?_
   refine one1 4 (some 15) 63 (fun K hK => ?_)
   refine go1 Tryz.func69 #[.string a0] ?_
   with_reducible refine (glyph_Fold.calls a0 t237 _ A4.out).mono ?_
   rintro e w14 ⟨rfl, hb⟩
   refine ⟨_, rfl, ?_⟩
   replace BK232 := Aside0.mk (blk_below (g := gb232) (o := .cells #[.string (⟨#[]⟩ : ByteArray), .string (⟨#[]⟩ : ByteArray)] 86 (0, 0)) (bkw BK232) hb)
   replace BK236 := Aside0.mk (blk_below (g := gb236) (o := .cells #[.string t233, .string t234] 86 (0, 0)) (bkw BK236) hb)
   replace HB := Aside0.mk (below_step blw hb)
   (try clear hb)
   refine hK.out _ _ ⟨bk_ BK236, bk_ BK236⟩ (fun hHeld => ?_)
   clear hK K
   refine nm_ (some 15) ?_
   refine one1 6 (some 17) 127 (fun K hK => ?_)
   refine go1 Tryz.func70 #[.agg #[.string t233, .string t234]] ?_
   with_reducible refine (addr_Addr_Key.calls k t233 t234 t238 _ A5.out).mono ?_
   rintro e w15 ⟨rfl, hb⟩
   refine ⟨_, rfl, ?_⟩
   replace BK232 := Aside0.mk (blk_below (g := gb232) (o := .cells #[.string (⟨#[]⟩ : ByteArray), .string (⟨#[]⟩ : ByteArray)] 86 (0, 0)) (bkw BK232) hb)
   replace BK236 := Aside0.mk (blk_below (g := gb236) (o := .cells #[.string t233, .string t234] 86 (0, 0)) (bkw BK236) hb)
   replace HB := Aside0.mk (below_step blw hb)
   (try clear hb)
   refine hK.out _ _ ⟨bk_ BK236, bk_ BK236⟩ (fun hHeld => ?_)
   clear hK K
   refine nm_ (some 17) ?_
   refine pu_ 7 18 255 ?_
   refine pu_ 8 19 511 ?_
   refine done_ (done_of HT_.out (by kernel_rfl)) ?_
   have hcz16_0 : w15.cell? ⟨gb236, 0, none⟩ = some (.string t233) := bk_ BK236
   have hcz16_1 : w15.cell? ⟨gb236, 1, none⟩ = some (.string t234) := bk_ BK236
   have hfz16_0 := blk_frozen BK236.out 0
   have hfz16_1 := blk_frozen BK236.out 1
   have hcz17_0 : w15.cell? ⟨gb232, 0, none⟩ = some (.string (⟨#[]⟩ : ByteArray)) := bk_ BK232
   have hcz17_1 : w15.cell? ⟨gb232, 1, none⟩ = some (.string (⟨#[]⟩ : ByteArray)) := bk_ BK232
   have hfz17_0 := blk_frozen BK232.out 0
   have hfz17_1 := blk_frozen BK232.out 1
   try go_wp2
   refine bodyPost_ret (results_ct rfl _ _ gb232 86 #[.string t233, .string t234] (0, 0) _ rfl (by (with_reducible repeat (first | refine blk_drewN ?_ _ | refine blk_drew ?_ | refine blk_alloc ?_ _)); refine blk_put (cs := #[.string t233, .string (⟨#[]⟩ : ByteArray)]) ?_ 1 _ rfl; (with_reducible repeat (first | refine blk_drewN ?_ _ | refine blk_drew ?_ | refine blk_alloc ?_ _)); refine blk_put (cs := #[.string (⟨#[]⟩ : ByteArray), .string (⟨#[]⟩ : ByteArray)]) ?_ 0 _ rfl; (with_reducible repeat (first | refine blk_drewN ?_ _ | refine blk_drew ?_ | refine blk_alloc ?_ _)); exact BK232.out) Tryz.underlying86 rfl (by kernel_rfl)) rfl ?_
   exact ⟨by first | rfl | (simp [errW_none, errW_some] <;> rfl) | (simp [*, errW_none, errW_some] <;> rfl), blw⟩
  ·rw [if_neg c6] at H
   have c6b0 := beq_eq_false_iff_ne.mpr c6
   have c6b1 := bne_iff_ne.mpr c6
   simp only [Option.some.injEq, Prod.mk.injEq] at H
   obtain ⟨rfl, rfl, rfl⟩ := H
   go_enter Tryz.func56, Tryz.ntmps56
   try go_wp2_with (first | ((with_reducible refine gate_dst (N := 2) rfl ?_); refine box_event ?hg (N := 2) ?hd (cs := #[.string (⟨#[]⟩ : ByteArray), .string (⟨#[]⟩ : ByteArray)]) (t := 86) ?hr ?_; (case hd => rfl); (case hg => rfl); (case hr => first | (go_simp; done) | (go_simp; rfl)); intro gb232 hg w18 hbox hb; have BK232 := Aside0.mk (hbox); have GW232 : Aside0 (w.heap.size ≤ gb232) := gw_ hg; have GE232 : Aside0 (w.heap.size ≤ gb232) := gw_ hg; replace HB := Aside0.mk (below_step blw hb); clear hb hbox hg) | ((with_reducible refine gc 68 rfl ?_); refine cl_ (some 8) Tryz.func68 (addr_Parse.calls k a0 t233 t234 t235 _ A2.out) ?_; rintro w19 hb; replace BK232 := Aside0.mk (blk_below (g := gb232) (o := .cells #[.string (⟨#[]⟩ : ByteArray), .string (⟨#[]⟩ : ByteArray)] 86 (0, 0)) (bkw BK232) hb); replace HB := Aside0.mk (below_step blw hb); (try clear hb)) | ((with_reducible refine gate_dst (N := 4) rfl ?_); refine box_event ?hg (N := 4) ?hd (cs := #[.string (⟨#[]⟩ : ByteArray), .string (⟨#[]⟩ : ByteArray)]) (t := 86) ?hr ?_; (case hd => rfl); (case hg => rfl); (case hr => first | (go_simp; done) | (go_simp; rfl)); intro gb236 hg w20 hbox hb; have BK236 := Aside0.mk (hbox); have GW236 : Aside0 (w.heap.size ≤ gb236) := gw_ hg; have GE236 : Aside0 (w.heap.size ≤ gb236) := gw_ hg; replace HB := Aside0.mk (below_step blw hb); have NB232_236 := Aside0.mk ((by rw [hg]; exact Nat.ne_of_lt (blk_lt (g := gb232) (o := .cells #[.string (⟨#[]⟩ : ByteArray), .string (⟨#[]⟩ : ByteArray)] 86 (0, 0)) (bkw BK232)) : gb232 ≠ gb236)); have NB236_232 := Aside0.mk ((by rw [hg]; exact Nat.ne_of_gt (blk_lt (g := gb232) (o := .cells #[.string (⟨#[]⟩ : ByteArray), .string (⟨#[]⟩ : ByteArray)] 86 (0, 0)) (bkw BK232)) : gb236 ≠ gb232)); replace BK232 := Aside0.mk (blk_below (g := gb232) (o := .cells #[.string (⟨#[]⟩ : ByteArray), .string (⟨#[]⟩ : ByteArray)] 86 (0, 0)) (bkw BK232) hb); clear hb hbox hg; have hnb21 := NB236_232.out; have hnc21 := NB232_236.out; have hcz22_0 : w20.cell? ⟨gb236, 0, none⟩ = some (.string (⟨#[]⟩ : ByteArray)) := bk_ BK236; have hcz22_1 : w20.cell? ⟨gb236, 1, none⟩ = some (.string (⟨#[]⟩ : ByteArray)) := bk_ BK236; have hfz22_0 := blk_frozen BK236.out 0; have hfz22_1 := blk_frozen BK236.out 1))
   have n0_ : Aside0 (((w20.setCell ⟨gb236, 0, none⟩ (.string t233)).setCell ⟨gb236, 1, none⟩ (.string t234)).heap[gb232]? = some (.cells #[.string (⟨#[]⟩ : ByteArray), .string (⟨#[]⟩ : ByteArray)] 86 (0, 0))) := ⟨by (with_reducible repeat (first | refine blk_drewN ?_ _ | refine blk_drew ?_ | refine blk_alloc ?_ _)); refine blk_far ?_ NB232_236.out _; (with_reducible repeat (first | refine blk_drewN ?_ _ | refine blk_drew ?_ | refine blk_alloc ?_ _)); refine blk_far ?_ NB232_236.out _; (with_reducible repeat (first | refine blk_drewN ?_ _ | refine blk_drew ?_ | refine blk_alloc ?_ _)); exact BK232.out⟩
   have n1_ : Aside0 (((w20.setCell ⟨gb236, 0, none⟩ (.string t233)).setCell ⟨gb236, 1, none⟩ (.string t234)).heap[gb236]? = some (.cells #[.string t233, .string t234] 86 (0, 0))) := ⟨by (with_reducible repeat (first | refine blk_drewN ?_ _ | refine blk_drew ?_ | refine blk_alloc ?_ _)); refine blk_put (cs := #[.string t233, .string (⟨#[]⟩ : ByteArray)]) ?_ 1 _ rfl; (with_reducible repeat (first | refine blk_drewN ?_ _ | refine blk_drew ?_ | refine blk_alloc ?_ _)); refine blk_put (cs := #[.string (⟨#[]⟩ : ByteArray), .string (⟨#[]⟩ : ByteArray)]) ?_ 0 _ rfl; (with_reducible repeat (first | refine blk_drewN ?_ _ | refine blk_drew ?_ | refine blk_alloc ?_ _)); exact BK236.out⟩
   have n2_ : Aside0 (Below w.heap.size w ((w20.setCell ⟨gb236, 0, none⟩ (.string t233)).setCell ⟨gb236, 1, none⟩ (.string t234))) := ⟨blw⟩
   (try clear BK232)
   (try clear BK236)
   (try clear HB)
   generalize ((w20.setCell ⟨gb236, 0, none⟩ (.string t233)).setCell ⟨gb236, 1, none⟩ (.string t234)) = w23 at n0_ n1_ n2_ ⊢
   have BK232 := n0_
   have BK236 := n1_
   have HB := n2_
   clear n0_ n1_ n2_
   replace BK232 := Aside0.mk (blk_drew BK232.out)
   replace BK236 := Aside0.mk (blk_drew BK236.out)
   replace HB := Aside0.mk (below_drew1 HB.out)
   refine start_ (n := 9) (S := fun w' => w'.cell? ⟨gb236, 0, none⟩ = some (.string t233) ∧ w'.cell? ⟨gb236, 1, none⟩ = some (.string t234)) (ds := []) (ba 9 0) (by kernel_rfl) rfl rfl ⟨bk_ BK236, bk_ BK236⟩ (fun hHeld => ?_); refine with_tabW addr_Strict.tab2 addr_Strict.bits2 (fun HT_ HW_ => ?_)
   generalize w23.drew = w24 at BK232 BK236 HB hHeld ⊢
   refine pu_ 0 11 1 ?_
   refine pu_ 1 12 3 ?_
   refine pu_ 2 13 7 ?_
   refine pu_ 3 14 15 ?_
   refine tk_ 5 16 47 hHeld ?_
   refine one1 4 (some 15) 63 (fun K hK => ?_)
   refine go1 Tryz.func69 #[.string a0] ?_
   with_reducible refine (glyph_Fold.calls a0 t237 _ A4.out).mono ?_
   rintro e w25 ⟨rfl, hb⟩
   refine ⟨_, rfl, ?_⟩
   replace BK232 := Aside0.mk (blk_below (g := gb232) (o := .cells #[.string (⟨#[]⟩ : ByteArray), .string (⟨#[]⟩ : ByteArray)] 86 (0, 0)) (bkw BK232) hb)
   replace BK236 := Aside0.mk (blk_below (g := gb236) (o := .cells #[.string t233, .string t234] 86 (0, 0)) (bkw BK236) hb)
   replace HB := Aside0.mk (below_step blw hb)
   (try clear hb)
   refine hK.out _ _ ⟨bk_ BK236, bk_ BK236⟩ (fun hHeld => ?_)
   clear hK K
   refine nm_ (some 15) ?_
   refine one1 6 (some 17) 127 (fun K hK => ?_)
   refine go1 Tryz.func70 #[.agg #[.string t233, .string t234]] ?_
   with_reducible refine (addr_Addr_Key.calls k t233 t234 t238 _ A5.out).mono ?_
   rintro e w26 ⟨rfl, hb⟩
   refine ⟨_, rfl, ?_⟩
   replace BK232 := Aside0.mk (blk_below (g := gb232) (o := .cells #[.string (⟨#[]⟩ : ByteArray), .string (⟨#[]⟩ : ByteArray)] 86 (0, 0)) (bkw BK232) hb)
   replace BK236 := Aside0.mk (blk_below (g := gb236) (o := .cells #[.string t233, .string t234] 86 (0, 0)) (bkw BK236) hb)
   replace HB := Aside0.mk (below_step blw hb)
   (try clear hb)
   refine hK.out _ _ ⟨bk_ BK236, bk_ BK236⟩ (fun hHeld => ?_)
   clear hK K
   refine nm_ (some 17) ?_
   refine pu_ 7 18 255 ?_
   refine pu_ 8 19 511 ?_
   refine done_ (done_of HT_.out (by kernel_rfl)) ?_
   have hcz27_0 : w26.cell? ⟨gb232, 0, none⟩ = some (.string (⟨#[]⟩ : ByteArray)) := bk_ BK232
   have hcz27_1 : w26.cell? ⟨gb232, 1, none⟩ = some (.string (⟨#[]⟩ : ByteArray)) := bk_ BK232
   have hfz27_0 := blk_frozen BK232.out 0
   have hfz27_1 := blk_frozen BK232.out 1
   try go_wp2
   refine bodyPost_ret (results_ct rfl _ _ gb232 86 #[.string (⟨#[]⟩ : ByteArray), .string (⟨#[]⟩ : ByteArray)] (0, 0) _ rfl (by (with_reducible repeat (first | refine blk_drewN ?_ _ | refine blk_drew ?_ | refine blk_alloc ?_ _)); refine blk_put (cs := #[.string (⟨#[]⟩ : ByteArray), .string (⟨#[]⟩ : ByteArray)]) ?_ 1 _ rfl; (with_reducible repeat (first | refine blk_drewN ?_ _ | refine blk_drew ?_ | refine blk_alloc ?_ _)); refine blk_put (cs := #[.string (⟨#[]⟩ : ByteArray), .string (⟨#[]⟩ : ByteArray)]) ?_ 0 _ rfl; (with_reducible repeat (first | refine blk_drewN ?_ _ | refine blk_drew ?_ | refine blk_alloc ?_ _)); exact BK232.out) Tryz.underlying86 rfl (by kernel_rfl)) rfl ?_
   exact ⟨by first | rfl | (simp [errW_none, errW_some] <;> rfl) | (simp [*, errW_none, errW_some] <;> rfl), blw⟩
 ·rw [if_neg c3] at H
  have c3b0 := beq_eq_false_iff_ne.mpr c3
  have c3b1 := bne_iff_ne.mpr c3
  simp only [Option.some.injEq, Prod.mk.injEq] at H
  obtain ⟨rfl, rfl, rfl⟩ := H
  go_enter Tryz.func56, Tryz.ntmps56
  try go_wp2_with (first | ((with_reducible refine gate_dst (N := 2) rfl ?_); refine box_event ?hg (N := 2) ?hd (cs := #[.string (⟨#[]⟩ : ByteArray), .string (⟨#[]⟩ : ByteArray)]) (t := 86) ?hr ?_; (case hd => rfl); (case hg => rfl); (case hr => first | (go_simp; done) | (go_simp; rfl)); intro gb232 hg w28 hbox hb; have BK232 := Aside0.mk (hbox); have GW232 : Aside0 (w.heap.size ≤ gb232) := gw_ hg; have GE232 : Aside0 (w.heap.size ≤ gb232) := gw_ hg; replace HB := Aside0.mk (below_step blw hb); clear hb hbox hg) | ((with_reducible refine gc 68 rfl ?_); refine cl_ (some 8) Tryz.func68 (addr_Parse.calls k a0 t233 t234 t235 _ A2.out) ?_; rintro w29 hb; replace BK232 := Aside0.mk (blk_below (g := gb232) (o := .cells #[.string (⟨#[]⟩ : ByteArray), .string (⟨#[]⟩ : ByteArray)] 86 (0, 0)) (bkw BK232) hb); replace HB := Aside0.mk (below_step blw hb); (try clear hb)) | ((with_reducible refine gate_dst (N := 4) rfl ?_); refine box_event ?hg (N := 4) ?hd (cs := #[.string (⟨#[]⟩ : ByteArray), .string (⟨#[]⟩ : ByteArray)]) (t := 86) ?hr ?_; (case hd => rfl); (case hg => rfl); (case hr => first | (go_simp; done) | (go_simp; rfl)); intro gb236 hg w30 hbox hb; have BK236 := Aside0.mk (hbox); have GW236 : Aside0 (w.heap.size ≤ gb236) := gw_ hg; have GE236 : Aside0 (w.heap.size ≤ gb236) := gw_ hg; replace HB := Aside0.mk (below_step blw hb); have NB232_236 := Aside0.mk ((by rw [hg]; exact Nat.ne_of_lt (blk_lt (g := gb232) (o := .cells #[.string (⟨#[]⟩ : ByteArray), .string (⟨#[]⟩ : ByteArray)] 86 (0, 0)) (bkw BK232)) : gb232 ≠ gb236)); have NB236_232 := Aside0.mk ((by rw [hg]; exact Nat.ne_of_gt (blk_lt (g := gb232) (o := .cells #[.string (⟨#[]⟩ : ByteArray), .string (⟨#[]⟩ : ByteArray)] 86 (0, 0)) (bkw BK232)) : gb236 ≠ gb232)); replace BK232 := Aside0.mk (blk_below (g := gb232) (o := .cells #[.string (⟨#[]⟩ : ByteArray), .string (⟨#[]⟩ : ByteArray)] 86 (0, 0)) (bkw BK232) hb); clear hb hbox hg; have hnb31 := NB236_232.out; have hnc31 := NB232_236.out; have hcz32_0 : w30.cell? ⟨gb236, 0, none⟩ = some (.string (⟨#[]⟩ : ByteArray)) := bk_ BK236; have hcz32_1 : w30.cell? ⟨gb236, 1, none⟩ = some (.string (⟨#[]⟩ : ByteArray)) := bk_ BK236; have hfz32_0 := blk_frozen BK236.out 0; have hfz32_1 := blk_frozen BK236.out 1))
  have n0_ : Aside0 (((w30.setCell ⟨gb236, 0, none⟩ (.string t233)).setCell ⟨gb236, 1, none⟩ (.string t234)).heap[gb232]? = some (.cells #[.string (⟨#[]⟩ : ByteArray), .string (⟨#[]⟩ : ByteArray)] 86 (0, 0))) := ⟨by (with_reducible repeat (first | refine blk_drewN ?_ _ | refine blk_drew ?_ | refine blk_alloc ?_ _)); refine blk_far ?_ NB232_236.out _; (with_reducible repeat (first | refine blk_drewN ?_ _ | refine blk_drew ?_ | refine blk_alloc ?_ _)); refine blk_far ?_ NB232_236.out _; (with_reducible repeat (first | refine blk_drewN ?_ _ | refine blk_drew ?_ | refine blk_alloc ?_ _)); exact BK232.out⟩
  have n1_ : Aside0 (((w30.setCell ⟨gb236, 0, none⟩ (.string t233)).setCell ⟨gb236, 1, none⟩ (.string t234)).heap[gb236]? = some (.cells #[.string t233, .string t234] 86 (0, 0))) := ⟨by (with_reducible repeat (first | refine blk_drewN ?_ _ | refine blk_drew ?_ | refine blk_alloc ?_ _)); refine blk_put (cs := #[.string t233, .string (⟨#[]⟩ : ByteArray)]) ?_ 1 _ rfl; (with_reducible repeat (first | refine blk_drewN ?_ _ | refine blk_drew ?_ | refine blk_alloc ?_ _)); refine blk_put (cs := #[.string (⟨#[]⟩ : ByteArray), .string (⟨#[]⟩ : ByteArray)]) ?_ 0 _ rfl; (with_reducible repeat (first | refine blk_drewN ?_ _ | refine blk_drew ?_ | refine blk_alloc ?_ _)); exact BK236.out⟩
  have n2_ : Aside0 (Below w.heap.size w ((w30.setCell ⟨gb236, 0, none⟩ (.string t233)).setCell ⟨gb236, 1, none⟩ (.string t234))) := ⟨blw⟩
  (try clear BK232)
  (try clear BK236)
  (try clear HB)
  generalize ((w30.setCell ⟨gb236, 0, none⟩ (.string t233)).setCell ⟨gb236, 1, none⟩ (.string t234)) = w33 at n0_ n1_ n2_ ⊢
  have BK232 := n0_
  have BK236 := n1_
  have HB := n2_
  clear n0_ n1_ n2_
  replace BK232 := Aside0.mk (blk_drew BK232.out)
  replace BK236 := Aside0.mk (blk_drew BK236.out)
  replace HB := Aside0.mk (below_drew1 HB.out)
  refine start_ (n := 9) (S := fun w' => True) (ds := []) (ba 9 0) (by kernel_rfl) rfl rfl trivial (fun hHeld => ?_); refine with_tabW addr_Strict.tab2 addr_Strict.bits2 (fun HT_ HW_ => ?_)
  generalize w33.drew = w34 at BK232 BK236 HB hHeld ⊢
  refine pu_ 0 11 1 ?_
  refine pu_ 1 12 3 ?_
  refine pu_ 2 13 7 ?_
  refine pu0 3 14 15 ?_
  refine pu0 4 15 31 ?_
  refine pu0 5 16 63 ?_
  refine pu0 6 17 127 ?_
  refine pu0 7 18 255 ?_
  refine pu_ 8 19 511 ?_
  refine done_ (done_of HT_.out (by kernel_rfl)) ?_
  have hcz35_0 : w34.cell? ⟨gb236, 0, none⟩ = some (.string t233) := bk_ BK236
  have hcz35_1 : w34.cell? ⟨gb236, 1, none⟩ = some (.string t234) := bk_ BK236
  have hfz35_0 := blk_frozen BK236.out 0
  have hfz35_1 := blk_frozen BK236.out 1
  have hcz36_0 : w34.cell? ⟨gb232, 0, none⟩ = some (.string (⟨#[]⟩ : ByteArray)) := bk_ BK232
  have hcz36_1 : w34.cell? ⟨gb232, 1, none⟩ = some (.string (⟨#[]⟩ : ByteArray)) := bk_ BK232
  have hfz36_0 := blk_frozen BK232.out 0
  have hfz36_1 := blk_frozen BK232.out 1
  try go_wp2
  refine bodyPost_ret (results_ct rfl _ _ gb232 86 #[.string t233, .string t234] (0, 0) _ rfl (by (with_reducible repeat (first | refine blk_drewN ?_ _ | refine blk_drew ?_ | refine blk_alloc ?_ _)); refine blk_put (cs := #[.string t233, .string (⟨#[]⟩ : ByteArray)]) ?_ 1 _ rfl; (with_reducible repeat (first | refine blk_drewN ?_ _ | refine blk_drew ?_ | refine blk_alloc ?_ _)); refine blk_put (cs := #[.string (⟨#[]⟩ : ByteArray), .string (⟨#[]⟩ : ByteArray)]) ?_ 0 _ rfl; (with_reducible repeat (first | refine blk_drewN ?_ _ | refine blk_drew ?_ | refine blk_alloc ?_ _)); exact BK232.out) Tryz.underlying86 rfl (by kernel_rfl)) rfl ?_
  exact ⟨by first | rfl | (simp [errW_none, errW_some] <;> rfl) | (simp [*, errW_none, errW_some] <;> rfl), blw⟩

/-! ### script_address: function 42 -/
def script_address.f (k : Nat) (a0 : ByteArray) : Option (Bool) := (addr_Strict.f k a0).bind fun bt239 => ((script_word.f k a0).bind fun t243 => (if t243 = true then (some (bt239.2.2 == 0)) else (some false)))
theorem script_address.mono : ∀ a0 k, LeO (script_address.f k a0) (script_address.f (k + 1) a0) := by
  intro a0 k
  unfold script_address.f
  repeat' first | (with_reducible first | exact addr_Strict.mono _ _ | exact script_word.mono _ _ | exact LeO.refl _ | exact LeO.none _ | refine LeO.ite ?_ ?_ | refine LeO.bind ?_ (fun _ => ?_)) | exact addr_Strict.mono _ _ | exact script_word.mono _ _ | exact LeO.none _ | refine LeO.ite ?_ ?_ | refine LeO.bind ?_ (fun _ => ?_)
set_option maxHeartbeats 8000000 in
set_option maxRecDepth 100000 in
theorem script_address.calls (k : Nat) (a0 : ByteArray) (r : Bool) (w : World) (h : script_address.f k a0 = some r) :
    Calls Tryz.prog 42 #[.string a0] w fun e w' => e = .returned (.bool r) ∧ Below w.heap.size w w' := by
 have hu86 := Tryz.underlying86
 have HB := Aside0.mk (Below.refl w.heap.size w)
 unfold script_address.f at h
 have H := h
 clear h
 replace H := Option.bind_eq_some_iff.mp H
 obtain ⟨⟨t239, t240, t241⟩, A20, H⟩ := H
 try dsimp only at H
 have A2 := Aside0.mk A20
 clear A20
 replace H := Option.bind_eq_some_iff.mp H
 obtain ⟨t243, A30, H⟩ := H
 try dsimp only at H
 have A3 := Aside0.mk A30
 clear A30
 by_cases c4 : t243 = true
 ·subst c4
  rw [if_pos rfl] at H
  obtain rfl := Option.some.inj H
  go_enter Tryz.func42, Tryz.ntmps42
  go_wp2_with (first | ((with_reducible refine gc 56 rfl ?_); refine cl_ (some 7) Tryz.func56 (addr_Strict.calls k a0 t239 t240 t241 _ A2.out) ?_; rintro w5 hb; replace HB := Aside0.mk (below_step blw hb); (try clear hb)) | ((with_reducible refine gate_dst (N := 3) rfl ?_); refine box_event ?hg (N := 3) ?hd (cs := #[.string (⟨#[]⟩ : ByteArray), .string (⟨#[]⟩ : ByteArray)]) (t := 86) ?hr ?_; (case hd => rfl); (case hg => rfl); (case hr => first | (go_simp; done) | (go_simp; rfl)); intro gb242 hg w6 hbox hb; have BK242 := Aside0.mk (hbox); have GW242 : Aside0 (w.heap.size ≤ gb242) := gw_ hg; have GE242 : Aside0 (w.heap.size ≤ gb242) := gw_ hg; replace HB := Aside0.mk (below_step blw hb); clear hb hbox hg; have hcz7_0 : w6.cell? ⟨gb242, 0, none⟩ = some (.string (⟨#[]⟩ : ByteArray)) := bk_ BK242; have hcz7_1 : w6.cell? ⟨gb242, 1, none⟩ = some (.string (⟨#[]⟩ : ByteArray)) := bk_ BK242; have hfz7_0 := blk_frozen BK242.out 0; have hfz7_1 := blk_frozen BK242.out 1) | ((with_reducible refine gc 44 rfl ?_); refine cl_ (some 11) Tryz.func44 (script_word.calls k a0 true _ A3.out) ?_; rintro w' ⟨nd, rfl⟩))
  go_ret
  exact ⟨by first | rfl | (simp [errW_none, errW_some] <;> rfl) | (simp [*, errW_none, errW_some] <;> rfl), blw⟩
 ·replace c4 := Bool.eq_false_iff.mpr c4
  subst c4
  rw [if_neg nft] at H
  obtain rfl := Option.some.inj H
  go_enter Tryz.func42, Tryz.ntmps42
  go_wp2_with (first | ((with_reducible refine gc 56 rfl ?_); refine cl_ (some 7) Tryz.func56 (addr_Strict.calls k a0 t239 t240 t241 _ A2.out) ?_; rintro w8 hb; replace HB := Aside0.mk (below_step blw hb); (try clear hb)) | ((with_reducible refine gate_dst (N := 3) rfl ?_); refine box_event ?hg (N := 3) ?hd (cs := #[.string (⟨#[]⟩ : ByteArray), .string (⟨#[]⟩ : ByteArray)]) (t := 86) ?hr ?_; (case hd => rfl); (case hg => rfl); (case hr => first | (go_simp; done) | (go_simp; rfl)); intro gb242 hg w9 hbox hb; have BK242 := Aside0.mk (hbox); have GW242 : Aside0 (w.heap.size ≤ gb242) := gw_ hg; have GE242 : Aside0 (w.heap.size ≤ gb242) := gw_ hg; replace HB := Aside0.mk (below_step blw hb); clear hb hbox hg; have hcz10_0 : w9.cell? ⟨gb242, 0, none⟩ = some (.string (⟨#[]⟩ : ByteArray)) := bk_ BK242; have hcz10_1 : w9.cell? ⟨gb242, 1, none⟩ = some (.string (⟨#[]⟩ : ByteArray)) := bk_ BK242; have hfz10_0 := blk_frozen BK242.out 0; have hfz10_1 := blk_frozen BK242.out 1) | ((with_reducible refine gc 44 rfl ?_); refine cl_ (some 11) Tryz.func44 (script_word.calls k a0 false _ A3.out) ?_; rintro w' ⟨nd, rfl⟩))
  go_ret
  exact ⟨by first | rfl | (simp [errW_none, errW_some] <;> rfl) | (simp [*, errW_none, errW_some] <;> rfl), blw⟩

/-! ### script_all: function 43 -/
section
open Go Go.Shelf Go.Proofs.YtcgfaagadejpmaaGreatDoorW.SeqC Sp
attribute [local go_sem] Oper.semAt_some
set_option maxHeartbeats 2000000 in
theorem script_all.walk (fA : ByteArray → Option Bool) (hA : ∀ x r w, fA x = some r → Calls Tryz.prog 42 #[.string x] w fun e w' => e = .returned (.bool r) ∧ Below w.heap.size w w')
    (a0 : ByteArray) (r : Bool) (w : World) (hsz : a0.size ≤ 140737488355327) (h : Sp.allP fA (Sp.parts 44 a0) = some r) :
    Calls Tryz.prog 43 #[.string a0] w fun e w' => e = .returned (.bool r) ∧ Below w.heap.size w w' := by
  refine (callsIn_wide (n := 3)).1 ?_
  refine callsIn_of_wp_marks Tryz.func43 rfl trivial ?_ rfl
  simp only [Tryz.ntmps43, List.size_toArray, List.length_cons, List.length_nil, Nat.reduceAdd, Nat.reduceSub, Array.replicate_succ, Array.replicate_zero, List.push_toArray, List.append_toArray, List.nil_append, List.cons_append]
  gi_wp2_with (refine ⟨trivial, (callsIn_wide.2 (splitSeq_in 3 a0 ⟨#[44]⟩ _)).mono ?_⟩; rintro e w' ⟨rfl, rfl⟩)
  have c0 := World.alloc_heap_new w (.cells #[.bool false] 4)
  obtain ⟨t0, t1, t2⟩ := three (w.alloc (.cells #[.bool false] 4)) (.cells #[.string a0] 9) (.cells #[.string ⟨#[44]⟩] 9) (.cells #[.int .i64 0] 3)
  simp only [World.size_alloc] at t0 t1 t2
  have hB0 : Below w.heap.size w ((((w.alloc (.cells #[.bool false] 4)).alloc (.cells #[.string a0] 9)).alloc (.cells #[.string ⟨#[44]⟩] 9)).alloc (.cells #[.int .i64 0] 3)) :=
    ((((Below.refl _ w).alloc (Nat.le_refl _) _).alloc (by simp) _).alloc (by simp; omega) _).alloc (by simp; omega) _
  refine wpIn_range_cell rfl (by decide) (gf := 37) (lb := #[.pointer (some ⟨w.heap.size + 1 + 1, 0, none⟩), .pointer (some ⟨w.heap.size + 1, 0, none⟩), .pointer (some ⟨w.heap.size + 1 + 2, 0, none⟩)]) rfl trivial (enters_of Tryz.func37 (by kernel_rfl) rfl)
    (splitIt 2 a0 hsz 44 (w.heap.size + 1) _ (by simp) t0 t1 t2) (by simp) ((blk_cell t0 0).trans rfl) kp3_t (kp3_b (by simp)) (fun _ => rfl)
    (fun pre W => (∀ y ∈ pre, fA y = some true) ∧ W.heap[w.heap.size]? = some (.cells #[.bool false] 4 (0, 0)) ∧ Below w.heap.size w W ∧ w.heap.size + 4 ≤ W.heap.size)
    (fun c pre W => c = .ret ∧ r = false ∧ W.heap[w.heap.size]? = some (.cells #[.bool false] 4 (0, 0)) ∧ Below w.heap.size w W)
    (fun s A B row hs hg hr => ⟨hs.1, blk_own hs.2.1 hg hr, ownFrom_below (Nat.le_refl _) (by simp; omega) s A B row hs.2.2.1 hg hr, Nat.le_trans hs.2.2.2 hg.size⟩)
    (fun c s A B row hs hg hr => ⟨hs.1, hs.2.1, blk_own hs.2.2.1 hg hr, ownFrom_below (Nat.le_refl _) (by simp; omega) s A B row hs.2.2.2 hg hr⟩)
    (fun s W v hs => ⟨hs.1, (Below.heap_setCell W _ v _ (by simp)).trans hs.2.1, hs.2.2.1.setCell (by simp) _, by rw [World.size_setCell]; exact hs.2.2.2⟩)
    ⟨by simp, (Below.heap_alloc _ _ _ (by simp; omega)).trans ((Below.heap_alloc _ _ _ (by simp; omega)).trans ((Below.heap_alloc _ _ _ (by simp)).trans c0)), hB0, by simp⟩
    (fun x => { tmps := #[.string a0, undef, .pointer (some ⟨w.heap.size, 0, none⟩), .string x, .string a0, .func (.func 37) #[] #[.pointer (some ⟨w.heap.size + 1 + 1, 0, none⟩), .pointer (some ⟨w.heap.size + 1, 0, none⟩), .pointer (some ⟨w.heap.size + 1 + 2, 0, none⟩)], .string x, undef, undef, undef], defers := [] }) ?assign ?body ?done ?stop
  case assign =>
    intro l x W K hK
    gi_wp2
    exact hK
  case body =>
    rintro l pre x W ⟨hp, hcr, hB, hIB⟩ ⟨ys, hys⟩
    rw [← hys, List.append_assoc] at h
    obtain ⟨bx, hbx, hrx⟩ := allP_pre pre x ys r hp h
    have hcc : W.cell? ⟨w.heap.size, 0, none⟩ = some (.bool false) := (blk_cell hcr 0).trans rfl
    have hff : W.frozen? ⟨w.heap.size, 0, none⟩ = false := blk_frozen hcr 0
    cases bx with
    | false =>
      obtain rfl : r = false := hrx rfl
      gi_wp2_with (refine ⟨trivial, (CallsIn.inRound l (callsIn_wide.2 (hA x false _ hbx))).mono ?_⟩; rintro e w2 ⟨rfl, hb⟩; have hc2 : w2.heap[w.heap.size]? = some (.cells #[.bool false] 4 (0, 0)) := (hb.block _ (blk_lt hcr)).trans hcr; have hcc2 : w2.cell? ⟨w.heap.size, 0, none⟩ = some (.bool false) := (blk_cell hc2 0).trans rfl; have hff2 : w2.frozen? ⟨w.heap.size, 0, none⟩ = false := blk_frozen hc2 0)
      exact ⟨(ko_below hb).trans (KeepsOthers.setCell _ _ _), rfl, one_setCell (u := .bool false) hc2, Below.setCell (below_step hB hb) (p := ⟨w.heap.size, 0, none⟩) (by simp) _⟩
    | true =>
      gi_wp2_with (refine ⟨trivial, (CallsIn.inRound l (callsIn_wide.2 (hA x true _ hbx))).mono ?_⟩; rintro e w2 ⟨rfl, hb⟩; have hc2 : w2.heap[w.heap.size]? = some (.cells #[.bool false] 4 (0, 0)) := (hb.block _ (blk_lt hcr)).trans hcr; have hcc2 : w2.cell? ⟨w.heap.size, 0, none⟩ = some (.bool false) := (blk_cell hc2 0).trans rfl; have hff2 : w2.frozen? ⟨w.heap.size, 0, none⟩ = false := blk_frozen hc2 0)
      exact ⟨ko_below hb, kp3_below (b := w.heap.size + 1) hb (by have := hIB; omega), fun y hy => (List.mem_append.1 hy).elim (hp y) (fun e => by simp at e; subst e; exact hbx), hc2, below_step hB hb, Nat.le_trans hIB hb.size⟩
  case done =>
    rintro D ys W hD rfl ⟨hp, hcr, hB, _⟩ hK
    obtain rfl : true = r := Option.some.inj ((allP_all _ hp).symm.trans h)
    have hcc : W.cell? ⟨w.heap.size, 0, none⟩ = some (.bool false) := (blk_cell hcr 0).trans rfl
    have hff : W.frozen? ⟨w.heap.size, 0, none⟩ = false := blk_frozen hcr 0
    gi_wp2
    have hK' := (KeepsOthers.setCell W ⟨w.heap.size, 0, none⟩ (.bool true)).same D _ hK rfl
    refine ⟨by simp, .inl ⟨_, _, rfl, run_takeDeferred hK', ?_⟩⟩
    have hc5 := cell_kept ((blk_cell (one_setCell (u := .bool true) hcr) 0).trans rfl) (grownBy_putObj' _ D (.deferred none)) (fun r e => by cases e; exact ⟨_, hK', rfl⟩)
    refine ⟨.bool true, ?_, rfl, (hB.setCell (p := ⟨w.heap.size, 0, none⟩) (by simp) _).trans (belowK_b (w := w) (Nat.le_refl _) _ D _ _ (by simp at hD; omega) hK' rfl rfl)⟩
    simp [results, Tryz.f43, go_sem, hc5]
  case stop =>
    rintro D c pre W hD hpre ⟨rfl, rfl, hcr, hB⟩ hK
    gi_wp2
    refine ⟨by simp, .inl ⟨_, _, rfl, run_takeDeferred hK, ?_⟩⟩
    have hc5 := cell_kept ((blk_cell hcr 0).trans rfl) (grownBy_putObj' _ D (.deferred none)) (fun r e => by cases e; exact ⟨_, hK, rfl⟩)
    refine ⟨.bool false, ?_, rfl, hB.trans (belowK_b (w := w) (Nat.le_refl _) W D _ _ (by simp at hD; omega) hK rfl rfl)⟩
    simp [results, Tryz.f43, go_sem, hc5]
end
def script_all.f (k : Nat) (a0 : ByteArray) : Option (Bool) := if a0.size ≤ 140737488355327 then (Sp.allP (script_address.f k) (Sp.parts 44 a0)) else none
theorem script_all.mono : ∀ a0 k, LeO (script_all.f k a0) (script_all.f (k + 1) a0) := by
  intro a0 k
  unfold script_all.f
  exact LeO.ite (Sp.allP_mono _ _ (fun x => script_address.mono x k) _) (LeO.none _)
theorem script_all.calls (k : Nat) (a0 : ByteArray) (r : Bool) (w : World) (h : script_all.f k a0 = some r) :
    Calls Tryz.prog 43 #[.string a0] w fun e w' => e = .returned (.bool r) ∧ Below w.heap.size w w' := by
 unfold script_all.f at h
 by_cases h0 : a0.size ≤ 140737488355327
 ·rw [if_pos h0] at h
  exact script_all.walk (script_address.f k) (fun x r w hx => script_address.calls k x r w hx) a0 r w h0 h
 ·rw [if_neg h0] at h; cases h

/-! ### script_number: function 45 -/
def script_number.l0 : Nat → ByteArray → Int → Int → Int → Option (Int)
  | 0, _, _, _, _ => none
  | k + 1, x0, x3, x6, x7 => if x7 < x6 then (if 0 ≤ x7 then (if x7 < (x0.size : Int) then (if (bt x0 x7) < 48 then (some (-1)) else (if (bt x0 x7) > 57 then (some (-1)) else (if x7 = 10 then (some (-1)) else (script_number.l0 k x0 (wrap64 ((wrap64 (10 * x3)) + (((bt x0 x7) - 48) % 256))) x6 (wrap64 (x7 + 1)))))) else (none)) else (none)) else ((strconv_Itoa.f x3).bind fun t244 => (if t244.toList = x0.toList then (if x3 > 1000000000 then (some (-1)) else (some x3)) else (some (-1))))
def script_number.f (k : Nat) (a0 : ByteArray) : Option (Int) := script_number.l0 k a0 0 (a0.size : Int) 0
theorem script_number.mono_l : ∀ k, (∀ y0 y1 y2 y3, LeO (script_number.l0 k y0 y1 y2 y3) (script_number.l0 (k + 1) y0 y1 y2 y3))
  | 0 => fun _ _ _ _ r h => by simp [script_number.l0] at h
  | k + 1 => by
    have ih0 := script_number.mono_l k
    · intro y0 y1 y2 y3
      unfold script_number.l0
      repeat' first | (with_reducible first | exact ih0 _ _ _ _ | exact LeO.refl _ | exact LeO.none _ | refine LeO.ite ?_ ?_ | refine LeO.bind ?_ (fun _ => ?_)) | exact ih0 _ _ _ _ | exact LeO.none _ | refine LeO.ite ?_ ?_ | refine LeO.bind ?_ (fun _ => ?_)
theorem script_number.mono : ∀ a0 k, LeO (script_number.f k a0) (script_number.f (k + 1) a0) := by
  intro a0 k
  have ih0 := script_number.mono_l k
  unfold script_number.f
  repeat' first | (with_reducible first | exact ih0 _ _ _ _ | exact LeO.refl _ | exact LeO.none _ | refine LeO.ite ?_ ?_ | refine LeO.bind ?_ (fun _ => ?_)) | exact ih0 _ _ _ _ | exact LeO.none _ | refine LeO.ite ?_ ?_ | refine LeO.bind ?_ (fun _ => ?_)
set_option maxHeartbeats 8000000 in
set_option maxRecDepth 100000 in
theorem script_number.calls (k : Nat) (a0 : ByteArray) (r : Int) (w : World) (hG : Amb w) (h : script_number.f k a0 = some r) :
    Calls Tryz.prog 45 #[.string a0] w fun e w' => e = .returned (.int .i64 r) ∧ Below w.heap.size w w' := by
 have HB := Aside0.mk (Below.refl w.heap.size w)
 unfold script_number.f at h
 have H := h
 clear h
 have HG := Aside0.mk hG
 clear hG
 have H' := Aside0.mk H
 clear H
 go_enter Tryz.func45, Tryz.ntmps45
 go_wp2
 go_loopg [3, 7] k (fun kq v3 v7 w' => ∃ (x3_1 : Int) (x7_1 : Int), v3 = .int .i64 x3_1 ∧ v7 = .int .i64 x7_1 ∧ Aside0 (script_number.l0 kq a0 x3_1 (a0.size : Int) x7_1 = some r) ∧ Aside0 (kq ≤ k) ∧ Aside0 (Below w.heap.size w w'))
 case atStart => exact ⟨(0), (0), eqs, eqs, H', ⟨Nat.le_refl _⟩, ⟨blw⟩⟩
 case round =>
  clear H'
  obtain ⟨x3_1, x7_1, rfl, rfl, HA, HK1, HB⟩ := hrel
  cases gk with
  | zero => exact absurd HA.out (by simp [script_number.l0])
  | succ k1 =>
   have H := HA.out
   clear HA
   simp only [script_number.l0] at H
   by_cases c2 : x7_1 < (a0.size : Int)
   ·rw [if_pos c2] at H
    have c2b0 := decide_eq_true c2
    clear c2
    obtain ⟨c3, H⟩ := iteS H
    have c3b0 := decide_eq_true c3
    clear c3
    obtain ⟨c4, H⟩ := iteS H
    have c4b0 := decide_eq_true c4
    clear c4
    by_cases c6 : (bt a0 x7_1) < 48
    ·rw [if_pos c6] at H
     have c6b0 := decide_eq_true c6
     clear c6
     obtain rfl := Option.some.inj H
     have p5 : 0 ≤ (x7_1 : Int) := od_
     have q5 : x7_1 < (a0.size : Int) := od_
     have hx5 := bt_at a0 x7_1
     replace p5 := eq_true p5
     replace q5 := eq_true q5
     go_wp2
     go_ret
     exact ⟨by first | rfl | (simp [errW_none, errW_some] <;> rfl) | (simp [*, errW_none, errW_some] <;> rfl), blw⟩
    ·rw [if_neg c6] at H
     have c6b0 := decide_eq_false c6
     clear c6
     by_cases c8 : (bt a0 x7_1) > 57
     ·rw [if_pos c8] at H
      have c8b0 : decide (57 < (bt a0 x7_1)) = true := decide_eq_true c8
      clear c8
      obtain rfl := Option.some.inj H
      have p5 : 0 ≤ (x7_1 : Int) := od_
      have q5 : x7_1 < (a0.size : Int) := od_
      have hx5 := bt_at a0 x7_1
      replace p5 := eq_true p5
      replace q5 := eq_true q5
      have p7 : 0 ≤ (x7_1 : Int) := od_
      have q7 : x7_1 < (a0.size : Int) := od_
      have hx7 := bt_at a0 x7_1
      replace p7 := eq_true p7
      replace q7 := eq_true q7
      go_wp2
      go_ret
      exact ⟨by first | rfl | (simp [errW_none, errW_some] <;> rfl) | (simp [*, errW_none, errW_some] <;> rfl), blw⟩
     ·rw [if_neg c8] at H
      have c8b0 : decide (57 < (bt a0 x7_1)) = false := decide_eq_false c8
      clear c8
      by_cases c9 : x7_1 = 10
      ·rw [if_pos c9] at H
       have c9b0 := beq_iff_eq.mpr c9
       have c9b1 := bne_eq_false_iff_eq.mpr c9
       clear c9
       obtain rfl := Option.some.inj H
       have p5 : 0 ≤ (x7_1 : Int) := od_
       have q5 : x7_1 < (a0.size : Int) := od_
       have hx5 := bt_at a0 x7_1
       replace p5 := eq_true p5
       replace q5 := eq_true q5
       have p7 : 0 ≤ (x7_1 : Int) := od_
       have q7 : x7_1 < (a0.size : Int) := od_
       have hx7 := bt_at a0 x7_1
       replace p7 := eq_true p7
       replace q7 := eq_true q7
       go_wp2
       go_ret
       exact ⟨by first | rfl | (simp [errW_none, errW_some] <;> rfl) | (simp [*, errW_none, errW_some] <;> rfl), blw⟩
      ·rw [if_neg c9] at H
       have c9b0 := beq_eq_false_iff_ne.mpr c9
       have c9b1 := bne_iff_ne.mpr c9
       have H' := Aside0.mk H
       clear H
       have p5 : 0 ≤ (x7_1 : Int) := od_
       have q5 : x7_1 < (a0.size : Int) := od_
       have hx5 := bt_at a0 x7_1
       replace p5 := eq_true p5
       replace q5 := eq_true q5
       have p7 : 0 ≤ (x7_1 : Int) := od_
       have q7 : x7_1 < (a0.size : Int) := od_
       have hx7 := bt_at a0 x7_1
       replace p7 := eq_true p7
       replace q7 := eq_true q7
       have p10 : 0 ≤ (x7_1 : Int) := od_
       have q10 : x7_1 < (a0.size : Int) := od_
       have hx10 := bt_at a0 x7_1
       replace p10 := eq_true p10
       replace q10 := eq_true q10
       go_wp2
       go_roundg k1
       case measure => have := HK1.out; omega
       case rel => exact ⟨(wrap64 ((wrap64 (10 * x3_1)) + (((bt a0 x7_1) - 48) % 256))), (wrap64 (x7_1 + 1)), eqs, eqs, H', ⟨by have := HK1.out; omega⟩, ⟨blw⟩⟩
   ·rw [if_neg c2] at H
    have c2b0 := decide_eq_false c2
    clear c2
    replace H := Option.bind_eq_some_iff.mp H
    obtain ⟨t244, A110, H⟩ := H
    try dsimp only at H
    have A11 := Aside0.mk A110
    clear A110
    by_cases c12 : t244.toList = a0.toList
    ·rw [if_pos c12] at H
     have c12b0 := beq_iff_eq.mpr c12
     have c12b1 := bne_eq_false_iff_eq.mpr c12
     clear c12
     by_cases c13 : x3_1 > 1000000000
     ·rw [if_pos c13] at H
      have c13b0 : decide (1000000000 < x3_1) = true := decide_eq_true c13
      clear c13
      obtain rfl := Option.some.inj H
      go_wp2_with (first | ((with_reducible refine gc 15 rfl ?_); refine cl_ (some 34) Tryz.func15 (strconv_Itoa.calls x3_1 t244 _ (Amb.at HG.out blw) A11.out) ?_; rintro w14 hb; replace HB := Aside0.mk (below_step blw hb); (try clear hb)))
      go_ret
      exact ⟨by first | rfl | (simp [errW_none, errW_some] <;> rfl) | (simp [*, errW_none, errW_some] <;> rfl), blw⟩
     ·rw [if_neg c13] at H
      have c13b0 : decide (1000000000 < x3_1) = false := decide_eq_false c13
      clear c13
      obtain rfl := Option.some.inj H
      go_wp2_with (first | ((with_reducible refine gc 15 rfl ?_); refine cl_ (some 34) Tryz.func15 (strconv_Itoa.calls x3_1 t244 _ (Amb.at HG.out blw) A11.out) ?_; rintro w15 hb; replace HB := Aside0.mk (below_step blw hb); (try clear hb)))
      go_ret
      exact ⟨by first | rfl | (simp [errW_none, errW_some] <;> rfl) | (simp [*, errW_none, errW_some] <;> rfl), blw⟩
    ·rw [if_neg c12] at H
     have c12b0 := beq_eq_false_iff_ne.mpr c12
     have c12b1 := bne_iff_ne.mpr c12
     obtain rfl := Option.some.inj H
     go_wp2_with (first | ((with_reducible refine gc 15 rfl ?_); refine cl_ (some 34) Tryz.func15 (strconv_Itoa.calls x3_1 t244 _ (Amb.at HG.out blw) A11.out) ?_; rintro w16 hb; replace HB := Aside0.mk (below_step blw hb); (try clear hb)))
     go_ret
     exact ⟨by first | rfl | (simp [errW_none, errW_some] <;> rfl) | (simp [*, errW_none, errW_some] <;> rfl), blw⟩

/-! ### strings_Trim: function 57 -/
def strings_Trim.f (a0 : ByteArray) (a1 : ByteArray) : Option (ByteArray) := if a0.size ≤ 140737488355327 then (if a1.size ≤ 100 then (if a1.data.toList.all (fun b => decide (b.toNat < 128)) = true then (some ⟨(Lib.trimS a0.data.toList a1.data.toList).toArray⟩) else none) else none) else none
theorem strings_Trim.calls (a0 : ByteArray) (a1 : ByteArray) (r : ByteArray) (w : World) (h : strings_Trim.f a0 a1 = some r) :
    Calls Tryz.prog 57 #[.string a0, .string a1] w fun e w' => e = .returned (.string r) ∧ Below w.heap.size w w' := by
 unfold strings_Trim.f at h
 by_cases h0 : a0.size ≤ 140737488355327
 ·rw [if_pos h0] at h
  by_cases h1 : a1.size ≤ 100
  ·rw [if_pos h1] at h
   by_cases h2 : a1.data.toList.all (fun b => decide (b.toNat < 128)) = true
   ·rw [if_pos h2] at h
    obtain rfl := Option.some.inj h
    refine (Any.strings_Trim_laid Tryz.lays160 (by kernel_rfl) a0 a1 w (by omega) (by omega) ?_)
    intro j b hj
    have := List.all_eq_true.1 h2 b (List.mem_of_getElem? hj)
    simpa using this
   ·rw [if_neg h2] at h; cases h
  ·rw [if_neg h1] at h; cases h
 ·rw [if_neg h0] at h; cases h

/-! ### script_kept: function 46 -/
def script_kept.f (a0 : ByteArray) : Option (Bool) := if a0.toList = ([45] : List UInt8) then (some true) else (if a0.toList = ([] : List UInt8) then (some false) else (if (a0.size : Int) ≤ 64 then ((strings_Trim.f a0 (⟨#[48, 49]⟩ : ByteArray)).bind fun t245 => (some (t245.toList == ([] : List UInt8)))) else (some false)))
set_option maxHeartbeats 8000000 in
set_option maxRecDepth 100000 in
theorem script_kept.calls (a0 : ByteArray) (r : Bool) (w : World) (h : script_kept.f a0 = some r) :
    Calls Tryz.prog 46 #[.string a0] w fun e w' => e = .returned (.bool r) ∧ Below w.heap.size w w' := by
 have HB := Aside0.mk (Below.refl w.heap.size w)
 unfold script_kept.f at h
 have H := h
 clear h
 by_cases c2 : a0.toList = ([45] : List UInt8)
 ·rw [if_pos c2] at H
  have c2b0 := beq_iff_eq.mpr c2
  have c2b1 := bne_eq_false_iff_eq.mpr c2
  clear c2
  obtain rfl := Option.some.inj H
  go_enter Tryz.func46, Tryz.ntmps46
  go_wp2
  go_ret
  exact ⟨by first | rfl | (simp [errW_none, errW_some] <;> rfl) | (simp [*, errW_none, errW_some] <;> rfl), blw⟩
 ·rw [if_neg c2] at H
  have c2b0 := beq_eq_false_iff_ne.mpr c2
  have c2b1 := bne_iff_ne.mpr c2
  by_cases c3 : a0.toList = ([] : List UInt8)
  ·rw [if_pos c3] at H
   have c3b0 := beq_iff_eq.mpr c3
   have c3b1 := bne_eq_false_iff_eq.mpr c3
   clear c3
   obtain rfl := Option.some.inj H
   go_enter Tryz.func46, Tryz.ntmps46
   go_wp2
   go_ret
   exact ⟨by first | rfl | (simp [errW_none, errW_some] <;> rfl) | (simp [*, errW_none, errW_some] <;> rfl), blw⟩
  ·rw [if_neg c3] at H
   have c3b0 := beq_eq_false_iff_ne.mpr c3
   have c3b1 := bne_iff_ne.mpr c3
   by_cases c4 : (a0.size : Int) ≤ 64
   ·rw [if_pos c4] at H
    have c4b0 := decide_eq_true c4
    have c4b1 : decide (a0.size ≤ 64) = true := decide_eq_true (by omega)
    clear c4
    replace H := Option.bind_eq_some_iff.mp H
    obtain ⟨t245, A50, H⟩ := H
    try dsimp only at H
    have A5 := Aside0.mk A50
    clear A50
    obtain rfl := Option.some.inj H
    go_enter Tryz.func46, Tryz.ntmps46
    go_wp2_with (first | (go_at_call 57; (with_reducible refine (strings_Trim.calls a0 (⟨#[48, 49]⟩ : ByteArray) t245 _ A5.out).mono ?_); rintro e w6 ⟨rfl, hb⟩; replace HB := Aside0.mk (below_step blw hb); (try clear hb)))
    go_ret
    exact ⟨by first | rfl | (simp [errW_none, errW_some] <;> rfl) | (simp [*, errW_none, errW_some] <;> rfl), blw⟩
   ·rw [if_neg c4] at H
    have c4b0 := decide_eq_false c4
    have c4b1 : decide (a0.size ≤ 64) = false := decide_eq_false (by omega)
    clear c4
    obtain rfl := Option.some.inj H
    go_enter Tryz.func46, Tryz.ntmps46
    go_wp2
    go_ret
    exact ⟨by first | rfl | (simp [errW_none, errW_some] <;> rfl) | (simp [*, errW_none, errW_some] <;> rfl), blw⟩

end Go.Proofs.YtcgfaagadejpmaaGreatDoor.Q
