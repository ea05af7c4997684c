-- Written by a program of this session (wip/myprint) out of the translation, for YtcpmoolpbeeedaaGreatDoor.
import Derived.Test.YtcpmoolpbeeedaaGreatDoorQ0
import Derived.Test.YtcpmoolpbeeedaaGreatDoorQ22
namespace Go.Proofs.YtcpmoolpbeeedaaGreatDoor.Q
open Go.RowKit Go.Proofs.YtcpmoolpbeeedaaGreatDoorW.PrintWords Go.Proofs.YtcpmoolpbeeedaaGreatDoorW.PrintLast Go.Proofs.YtcpmoolpbeeedaaGreatDoorW.PrintMore Go.Proofs.YtcpmoolpbeeedaaGreatDoorW.PrintSq
attribute [local go_sem] max2_int min2_int max_two min_two max_three min_three max_four min_four   -- for this text's walks alone
set_option linter.unusedVariables false
set_option linter.unusedSimpArgs false

/-! ### bulletinlaw23_To: function 16 -/
def bulletinlaw23_To.f (a0_0 : ByteArray) (a0_1 : ByteArray) (a0_2 : Int) (a0_3 : ByteArray) : Option (ByteArray × ByteArray × Int × ByteArray) := some (a0_0, a0_1, a0_2, a0_3)
set_option maxHeartbeats 8000000 in
set_option maxRecDepth 100000 in
theorem bulletinlaw23_To.calls (a0_0 : ByteArray) (a0_1 : ByteArray) (a0_2 : Int) (a0_3 : ByteArray) (r1 : ByteArray) (r2 : ByteArray) (r3 : Int) (r4 : ByteArray) (w : World) (h : bulletinlaw23_To.f a0_0 a0_1 a0_2 a0_3 = some (r1, r2, r3, r4)) :
    Calls Tryz.prog 16 #[.agg #[.string a0_0, .string a0_1, .int .i64 a0_2, .string a0_3]] w fun e w' => e = .returned (.agg #[.string r1, .string r2, .int .i64 r3, .string r4]) ∧ Below w.heap.size w w' := by
 have hu28 := Tryz.underlying28
 have hu34 := Tryz.underlying34
 have hu32 := Tryz.underlying32
 have HB := Aside0.mk (Below.refl w.heap.size w)
 unfold bulletinlaw23_To.f at h
 have H := h
 clear h
 simp only [Option.some.injEq, Prod.mk.injEq] at H
 obtain ⟨rfl, rfl, rfl, rfl⟩ := H
 go_enter Tryz.func16, Tryz.ntmps16
 go_wp2_with (first | ((with_reducible refine gate_dst (N := 1) rfl ?_); refine box_event ?hg (N := 1) ?hd (cs := #[.string a0_0, .string a0_1, .int .i64 a0_2, .string a0_3]) (t := 28) ?hr ?_; (case hd => rfl); (case hg => rfl); (case hr => first | (go_simp; done) | (go_simp; rfl)); intro gb426 hg w2 hbox hb; have BK426 := Aside0.mk (hbox); have GW426 : Aside0 (w.heap.size ≤ gb426) := gw_ hg; have GE426 : Aside0 (w.heap.size ≤ gb426) := gw_ hg; replace HB := Aside0.mk (below_step blw hb); clear hb hbox hg) | ((with_reducible refine gate_dst (N := 2) rfl ?_); refine box_event ?hg (N := 2) ?hd (cs := #[.string (⟨#[]⟩ : ByteArray), .string (⟨#[]⟩ : ByteArray), .int .i64 0, .string (⟨#[]⟩ : ByteArray)]) (t := 34) ?hr ?_; (case hd => rfl); (case hg => rfl); (case hr => first | (go_simp; done) | (go_simp; rfl)); intro gb427 hg w3 hbox hb; have BK427 := Aside0.mk (hbox); have GW427 : Aside0 (w.heap.size ≤ gb427) := gw_ hg; have GE427 : Aside0 (w.heap.size ≤ gb427) := gw_ hg; replace HB := Aside0.mk (below_step blw hb); have NB426_427 := Aside0.mk ((by rw [hg]; exact Nat.ne_of_lt (blk_lt (g := gb426) (o := .cells #[.string a0_0, .string a0_1, .int .i64 a0_2, .string a0_3] 28 (0, 0)) (bkw BK426)) : gb426 ≠ gb427)); have NB427_426 := Aside0.mk ((by rw [hg]; exact Nat.ne_of_gt (blk_lt (g := gb426) (o := .cells #[.string a0_0, .string a0_1, .int .i64 a0_2, .string a0_3] 28 (0, 0)) (bkw BK426)) : gb427 ≠ gb426)); replace BK426 := Aside0.mk (blk_below (g := gb426) (o := .cells #[.string a0_0, .string a0_1, .int .i64 a0_2, .string a0_3] 28 (0, 0)) (bkw BK426) hb); clear hb hbox hg; have hnb4 := NB426_427.out; have hnc4 := NB427_426.out; have hcz5_0 : w3.cell? ⟨gb426, 0, none⟩ = some (.string a0_0) := bk_ BK426; have hcz5_1 : w3.cell? ⟨gb426, 1, none⟩ = some (.string a0_1) := bk_ BK426; have hcz5_2 : w3.cell? ⟨gb426, 2, none⟩ = some (.int .i64 a0_2) := bk_ BK426; have hcz5_3 : w3.cell? ⟨gb426, 3, none⟩ = some (.string a0_3) := bk_ BK426; have hfz5_0 := blk_frozen BK426.out 0; have hfz5_1 := blk_frozen BK426.out 1; have hfz5_2 := blk_frozen BK426.out 2; have hfz5_3 := blk_frozen BK426.out 3; have hcz6_0 : w3.cell? ⟨gb427, 0, none⟩ = some (.string (⟨#[]⟩ : ByteArray)) := bk_ BK427; have hcz6_1 : w3.cell? ⟨gb427, 1, none⟩ = some (.string (⟨#[]⟩ : ByteArray)) := bk_ BK427; have hcz6_2 : w3.cell? ⟨gb427, 2, none⟩ = some (.int .i64 0) := bk_ BK427; have hcz6_3 : w3.cell? ⟨gb427, 3, none⟩ = some (.string (⟨#[]⟩ : ByteArray)) := bk_ BK427; have hfz6_0 := blk_frozen BK427.out 0; have hfz6_1 := blk_frozen BK427.out 1; have hfz6_2 := blk_frozen BK427.out 2; have hfz6_3 := blk_frozen BK427.out 3))
 refine bodyPost_ret (results_cell_row rfl _ _ gb427 34 #[.string a0_0, .string a0_1, .int .i64 a0_2, .string a0_3] (0, 0) _ rfl (by (with_reducible repeat (first | refine blk_drewN ?_ _ | refine blk_drew ?_ | refine blk_alloc ?_ _)); refine blk_put (cs := #[.string a0_0, .string a0_1, .int .i64 a0_2, .string (⟨#[]⟩ : ByteArray)]) ?_ 3 _ rfl; (with_reducible repeat (first | refine blk_drewN ?_ _ | refine blk_drew ?_ | refine blk_alloc ?_ _)); refine blk_put (cs := #[.string a0_0, .string a0_1, .int .i64 0, .string (⟨#[]⟩ : ByteArray)]) ?_ 2 _ rfl; (with_reducible repeat (first | refine blk_drewN ?_ _ | refine blk_drew ?_ | refine blk_alloc ?_ _)); refine blk_put (cs := #[.string a0_0, .string (⟨#[]⟩ : ByteArray), .int .i64 0, .string (⟨#[]⟩ : ByteArray)]) ?_ 1 _ rfl; (with_reducible repeat (first | refine blk_drewN ?_ _ | refine blk_drew ?_ | refine blk_alloc ?_ _)); refine blk_put (cs := #[.string (⟨#[]⟩ : ByteArray), .string (⟨#[]⟩ : ByteArray), .int .i64 0, .string (⟨#[]⟩ : ByteArray)]) ?_ 0 _ rfl; (with_reducible repeat (first | refine blk_drewN ?_ _ | refine blk_drew ?_ | refine blk_alloc ?_ _)); exact BK427.out) Tryz.underlying34 rfl (by kernel_rfl)) rfl ?_
 exact ⟨by first | rfl | (simp [errW_none, errW_some] <;> rfl) | (simp [*, errW_none, errW_some] <;> rfl), blw⟩
end Go.Proofs.YtcpmoolpbeeedaaGreatDoor.Q
