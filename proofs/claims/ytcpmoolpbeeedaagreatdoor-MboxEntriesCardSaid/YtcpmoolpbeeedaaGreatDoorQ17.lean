-- Written by a program of this session (wip/myprint) out of the translation, for YtcpmoolpbeeedaaGreatDoor.
import Derived.Test.YtcpmoolpbeeedaaGreatDoorQ0
import Derived.Test.YtcpmoolpbeeedaaGreatDoorQ5
import Derived.Test.YtcpmoolpbeeedaaGreatDoorQ7
import Derived.Test.YtcpmoolpbeeedaaGreatDoorQ12
import Derived.Test.YtcpmoolpbeeedaaGreatDoorQ16
namespace Go.Proofs.YtcpmoolpbeeedaaGreatDoor.Q
open Go.RowKit Go.Proofs.YtcpmoolpbeeedaaGreatDoorW.PrintWords Go.Proofs.YtcpmoolpbeeedaaGreatDoorW.PrintLast Go.Proofs.YtcpmoolpbeeedaaGreatDoorW.PrintMore Go.Proofs.YtcpmoolpbeeedaaGreatDoorW.PrintSq
attribute [local go_sem] max2_int min2_int max_two min_two max_three min_three max_four min_four   -- for this text's walks alone
set_option linter.unusedVariables false
set_option linter.unusedSimpArgs false

/-! ### mbox_moment: function 100 -/
def mbox_moment.f (k : Nat) (a0 : ByteArray) : Option (Int × Bool) := (strings_Fields.f a0).bind fun t338 => (if (t338.length : Int) = 5 then (if 2 < (t338.length : Int) then (if (rdOf ByteArray.empty t338 2).size + 1 ≤ 9223372036854775807 then (if 1 < (t338.length : Int) then (if (rdOf ByteArray.empty t338 2).size + 1 + (rdOf ByteArray.empty t338 1).size ≤ 9223372036854775807 then (if (rdOf ByteArray.empty t338 2).size + 1 + (rdOf ByteArray.empty t338 1).size + 1 ≤ 9223372036854775807 then (if 4 < (t338.length : Int) then (if (rdOf ByteArray.empty t338 2).size + 1 + (rdOf ByteArray.empty t338 1).size + 1 + (rdOf ByteArray.empty t338 4).size ≤ 9223372036854775807 then (if (rdOf ByteArray.empty t338 2).size + 1 + (rdOf ByteArray.empty t338 1).size + 1 + (rdOf ByteArray.empty t338 4).size + 1 ≤ 9223372036854775807 then (if 3 < (t338.length : Int) then (if (rdOf ByteArray.empty t338 2).size + 1 + (rdOf ByteArray.empty t338 1).size + 1 + (rdOf ByteArray.empty t338 4).size + 1 + (rdOf ByteArray.empty t338 3).size ≤ 9223372036854775807 then (if (rdOf ByteArray.empty t338 2).size + 1 + (rdOf ByteArray.empty t338 1).size + 1 + (rdOf ByteArray.empty t338 4).size + 1 + (rdOf ByteArray.empty t338 3).size + 2 ≤ 9223372036854775807 then ((date_Read.f k ((((((((rdOf ByteArray.empty t338 2) ++ (⟨#[32]⟩ : ByteArray)) ++ (rdOf ByteArray.empty t338 1)) ++ (⟨#[32]⟩ : ByteArray)) ++ (rdOf ByteArray.empty t338 4)) ++ (⟨#[32]⟩ : ByteArray)) ++ (rdOf ByteArray.empty t338 3)) ++ (⟨#[32, 90]⟩ : ByteArray))).bind fun bt345 => (some (bt345.1, (bt345.2 == 0)))) else (none)) else (none)) else (none)) else (none)) else (none)) else (none)) else (none)) else (none)) else (none)) else (none)) else (none)) else (none))
theorem mbox_moment.mono : ∀ a0 k, LeO (mbox_moment.f k a0) (mbox_moment.f (k + 1) a0) := by
  intro a0 k
  unfold mbox_moment.f
  repeat' first | (with_reducible first | exact date_Read.mono _ _ | exact LeO.refl _ | exact LeO.none _ | refine LeO.ite ?_ ?_ | refine LeO.bind ?_ (fun _ => ?_)) | exact date_Read.mono _ _ | exact LeO.none _ | refine LeO.ite ?_ ?_ | refine LeO.bind ?_ (fun _ => ?_)
def mbox_moment.T4 : Bool × List (List Nat × List Nat) := (true, [([], []), ([0], [0]), ([1], [1]), ([2], [2]), ([], []), ([4], [4]), ([5], [5]), ([3, 6], [3, 6]), ([7], [7]), ([], []), ([9], [9]), ([10], [10]), ([8, 11], [8, 11]), ([12], [12]), ([], []), ([14], [14]), ([15], [15]), ([13, 16], [13, 16]), ([17], [17]), ([18], [18]), ([19], [19]), ([20], [20]), ([20], [20]), ([21, 19, 0, 1, 2, 3, 4, 5, 6, 7, 8, 9, 10, 11, 12, 13, 14, 15, 16, 17, 18, 19, 20, 21], [21]), ([22, 23, 0, 1, 2, 3, 4, 5, 6, 7, 8, 9, 10, 11, 12, 13, 14, 15, 16, 17, 18, 19, 20, 21, 22, 23], [22])])
def mbox_moment.B4 : List Nat := [0, 1, 3, 7, 0, 16, 48, 127, 255, 0, 512, 1536, 4095, 8191, 0, 16384, 49152, 131071, 262143, 524287, 1048575, 2097151, 2097151, 4194303, 16777215]
theorem mbox_moment.tab4 : rtab .any (opsOf Tryz.f100 4) = mbox_moment.T4 := by kernel_rfl
theorem mbox_moment.bits4 : waitsOk mbox_moment.T4.2 mbox_moment.B4 = true := by kernel_rfl
set_option maxHeartbeats 8000000 in
set_option maxRecDepth 100000 in
theorem mbox_moment.calls (k : Nat) (a0 : ByteArray) (r1 : Int) (r2 : Bool) (w : World) (hG : Amb w) (h : mbox_moment.f k a0 = some (r1, r2)) :
    Calls Tryz.prog 100 #[.string a0] w fun e w' => e = .returned (.tuple #[.int .i64 r1, .bool r2]) ∧ Below w.heap.size w w' := by
 have HB := Aside0.mk (Below.refl w.heap.size w)
 unfold mbox_moment.f at h
 have H := h
 clear h
 have HG := Aside0.mk hG
 clear hG
 replace H := Option.bind_eq_some_iff.mp H
 obtain ⟨t338, A20, H⟩ := H
 try dsimp only at H
 have A2 := Aside0.mk A20
 clear A20
 obtain ⟨c3, H⟩ := iteS H
 have c3b0 := beq_iff_eq.mpr c3
 have c3b1 := bne_eq_false_iff_eq.mpr c3
 clear c3
 obtain ⟨c4, H⟩ := iteS H
 have c4b0 := decide_eq_true c4
 have c4b1 : decide (2 < t338.length) = true := decide_eq_true (by omega)
 clear c4
 obtain ⟨c5, H⟩ := iteS H
 have c5b0 := eq_true c5
 have c5b1 := decide_eq_true c5
 try have c5b2 := eq_false (Nat.not_lt.2 c5)
 obtain ⟨c6, H⟩ := iteS H
 have c6b0 := decide_eq_true c6
 have c6b1 : decide (1 < t338.length) = true := decide_eq_true (by omega)
 clear c6
 obtain ⟨c7, H⟩ := iteS H
 have c7b0 := eq_true c7
 have c7b1 := decide_eq_true c7
 try have c7b2 := eq_false (Nat.not_lt.2 c7)
 obtain ⟨c8, H⟩ := iteS H
 have c8b0 := eq_true c8
 have c8b1 := decide_eq_true c8
 try have c8b2 := eq_false (Nat.not_lt.2 c8)
 obtain ⟨c9, H⟩ := iteS H
 have c9b0 := decide_eq_true c9
 have c9b1 : decide (4 < t338.length) = true := decide_eq_true (by omega)
 clear c9
 obtain ⟨c10, H⟩ := iteS H
 have c10b0 := eq_true c10
 have c10b1 := decide_eq_true c10
 try have c10b2 := eq_false (Nat.not_lt.2 c10)
 obtain ⟨c11, H⟩ := iteS H
 have c11b0 := eq_true c11
 have c11b1 := decide_eq_true c11
 try have c11b2 := eq_false (Nat.not_lt.2 c11)
 obtain ⟨c12, H⟩ := iteS H
 have c12b0 := decide_eq_true c12
 have c12b1 : decide (3 < t338.length) = true := decide_eq_true (by omega)
 clear c12
 obtain ⟨c13, H⟩ := iteS H
 have c13b0 := eq_true c13
 have c13b1 := decide_eq_true c13
 try have c13b2 := eq_false (Nat.not_lt.2 c13)
 obtain ⟨c14, H⟩ := iteS H
 have c14b0 := eq_true c14
 have c14b1 := decide_eq_true c14
 try have c14b2 := eq_false (Nat.not_lt.2 c14)
 replace H := Option.bind_eq_some_iff.mp H
 obtain ⟨⟨t345, t346⟩, A150, H⟩ := H
 try dsimp only at H
 have A15 := Aside0.mk A150
 clear A150
 simp only [Option.some.injEq, Prod.mk.injEq] at H
 obtain ⟨rfl, rfl⟩ := H
 go_enter Tryz.func100, Tryz.ntmps100
 try go_wp2_with (first | ((with_reducible refine gc 129 rfl ?_); refine gl_ (some 8) Tryz.func129 #[.string a0] ?_; (with_reducible refine (strings_Fields.calls a0 t338 _ ?side1 A2.out).mono ?_); (case side1 => exact Amb.at HG.out blw); rintro e w16 ⟨v339, rfl, ho0, hb⟩; refine ⟨_, rfl, ?_⟩; have HO340 := Aside0.mk (Kd.R_lower ho0 (below_size blw)); replace HB := Aside0.mk (below_step blw hb); (try clear hb); (try clear ho0); obtain ⟨Ao17, co17, eo17⟩ := Kd.R_slice HO340.out; subst eo17))
 replace HO340 := Aside0.mk (Kd.R_drew HO340.out)
 replace HB := Aside0.mk (below_drew1 HB.out)
 have p341 : 0 ≤ (2 : Int) := (by omega)
 have q341 : 2 < (t338.length : Int) := od_
 obtain ⟨ad341, e341, hx341_0⟩ := Kd.at_string (Kd.R_reads' HO340.out).2.2 2 p341 q341
 cases e341
 (try simp only [show (2 : Int).toNat = 2 from rfl, Nat.reduceMul, Nat.reduceEqDiff, Go.Addr.add, ↓reduceIte] at hx341_0)
 have qi341 : (2 < t338.length) = True := eq_true (by omega)
 (try rw [show ((2 : Int)).toNat = 2 from rfl] at hx341_0)
 replace p341 := eq_true p341
 replace q341 := eq_true q341
 have p342 : 0 ≤ (1 : Int) := (by omega)
 have q342 : 1 < (t338.length : Int) := od_
 obtain ⟨ad342, e342, hx342_0⟩ := Kd.at_string (Kd.R_reads' HO340.out).2.2 1 p342 q342
 obtain rfl : ad341 = ad342 := (by injection e342)
 (try simp only [show (1 : Int).toNat = 1 from rfl, Nat.reduceMul, Nat.reduceEqDiff, Go.Addr.add, ↓reduceIte] at hx342_0)
 have qi342 : (1 < t338.length) = True := eq_true (by omega)
 (try rw [show ((1 : Int)).toNat = 1 from rfl] at hx342_0)
 replace p342 := eq_true p342
 replace q342 := eq_true q342
 have p343 : 0 ≤ (4 : Int) := (by omega)
 have q343 : 4 < (t338.length : Int) := od_
 obtain ⟨ad343, e343, hx343_0⟩ := Kd.at_string (Kd.R_reads' HO340.out).2.2 4 p343 q343
 obtain rfl : ad341 = ad343 := (by injection e343)
 (try simp only [show (4 : Int).toNat = 4 from rfl, Nat.reduceMul, Nat.reduceEqDiff, Go.Addr.add, ↓reduceIte] at hx343_0)
 have qi343 : (4 < t338.length) = True := eq_true (by omega)
 (try rw [show ((4 : Int)).toNat = 4 from rfl] at hx343_0)
 replace p343 := eq_true p343
 replace q343 := eq_true q343
 have p344 : 0 ≤ (3 : Int) := (by omega)
 have q344 : 3 < (t338.length : Int) := od_
 obtain ⟨ad344, e344, hx344_0⟩ := Kd.at_string (Kd.R_reads' HO340.out).2.2 3 p344 q344
 obtain rfl : ad341 = ad344 := (by injection e344)
 (try simp only [show (3 : Int).toNat = 3 from rfl, Nat.reduceMul, Nat.reduceEqDiff, Go.Addr.add, ↓reduceIte] at hx344_0)
 have qi344 : (3 < t338.length) = True := eq_true (by omega)
 (try rw [show ((3 : Int)).toNat = 3 from rfl] at hx344_0)
 replace p344 := eq_true p344
 replace q344 := eq_true q344
 refine start_ (n := 25) (S := fun w' => w'.cell? ⟨ad341.block, ad341.off + 2, none⟩ = some (.string (rdOf ByteArray.empty t338 2)) ∧ w'.cell? ⟨ad341.block, ad341.off + 1, none⟩ = some (.string (rdOf ByteArray.empty t338 1)) ∧ w'.cell? ⟨ad341.block, ad341.off + 4, none⟩ = some (.string (rdOf ByteArray.empty t338 4)) ∧ w'.cell? ⟨ad341.block, ad341.off + 3, none⟩ = some (.string (rdOf ByteArray.empty t338 3))) (ds := []) (ba 25 0) (by kernel_rfl) rfl rfl ⟨hx341_0, hx342_0, hx343_0, hx344_0⟩ (fun hHeld => ?_); refine with_tabW mbox_moment.tab4 mbox_moment.bits4 (fun HT_ HW_ => ?_)
 generalize w16.drew = w18 at HO340 HB hx341_0 hx342_0 hx343_0 hx344_0 hHeld ⊢
 refine pu_ 0 13 1 ?_
 refine pu_ 1 14 3 ?_
 refine pu_ 4 17 19 ?_
 refine pu_ 5 18 51 ?_
 refine pu_ 9 22 563 ?_
 refine pu_ 10 23 1587 ?_
 refine pu_ 14 27 17971 ?_
 refine pu_ 15 28 50739 ?_
 refine tk_ 2 15 50743 hHeld ?_
 refine pu_ 3 16 50751 ?_
 refine tk_ 6 19 50815 hHeld ?_
 refine pu_ 7 20 50943 ?_
 refine pu_ 8 21 51199 ?_
 refine tk_ 11 24 53247 hHeld ?_
 refine pu_ 12 25 57343 ?_
 refine pu_ 13 26 65535 ?_
 refine tk_ 16 29 131071 hHeld ?_
 refine pu_ 17 30 262143 ?_
 refine pu_ 18 31 524287 ?_
 refine one1 19 (some 32) 1048575 (fun K hK => ?_)
 refine go1 Tryz.func130 #[.string ((((((((rdOf ByteArray.empty t338 2) ++ (⟨#[32]⟩ : ByteArray)) ++ (rdOf ByteArray.empty t338 1)) ++ (⟨#[32]⟩ : ByteArray)) ++ (rdOf ByteArray.empty t338 4)) ++ (⟨#[32]⟩ : ByteArray)) ++ (rdOf ByteArray.empty t338 3)) ++ (⟨#[32, 90]⟩ : ByteArray))] ?_
 with_reducible refine (date_Read.calls k ((((((((rdOf ByteArray.empty t338 2) ++ (⟨#[32]⟩ : ByteArray)) ++ (rdOf ByteArray.empty t338 1)) ++ (⟨#[32]⟩ : ByteArray)) ++ (rdOf ByteArray.empty t338 4)) ++ (⟨#[32]⟩ : ByteArray)) ++ (rdOf ByteArray.empty t338 3)) ++ (⟨#[32, 90]⟩ : ByteArray)) t345 t346 _ ?side1 A15.out).mono ?_
 (case side1 => exact Amb.at HG.out blw)
 rintro e w19 ⟨rfl, hb⟩
 have HS0_ := (hb.cell (World.block_lt_of_cell? _ _ (hHeld.1))).trans (hHeld.1)
 have HS1_ := (hb.cell (World.block_lt_of_cell? _ _ (hHeld.2.1))).trans (hHeld.2.1)
 have HS2_ := (hb.cell (World.block_lt_of_cell? _ _ (hHeld.2.2.1))).trans (hHeld.2.2.1)
 have HS3_ := (hb.cell (World.block_lt_of_cell? _ _ (hHeld.2.2.2))).trans (hHeld.2.2.2)
 refine ⟨_, rfl, ?_⟩
 replace HO340 := Aside0.mk (Kd.R_below (by (with_reducible repeat (first | apply Kd.R_alloc | apply Kd.R_drewN | apply Kd.R_drew)); exact HO340.out) hb)
 replace HB := Aside0.mk (below_step blw hb)
 (try clear hb)
 refine hK.out _ _ ⟨HS0_, HS1_, HS2_, HS3_⟩ (fun hHeld => ?_)
 clear hK K
 refine nm_ (some 32) ?_
 refine pu_ 20 12 2097151 ?_
 refine pu_ 21 33 4194303 ?_
 refine pu_ 22 34 8388607 ?_
 refine pu_ 23 5 16777215 ?_
 refine pu_ 24 6 33554431 ?_
 refine done_ (done_of HT_.out (by kernel_rfl)) ?_
 try go_wp2
 go_ret2
 exact ⟨by first | rfl | (simp [errW_none, errW_some] <;> rfl) | (simp [*, errW_none, errW_some] <;> rfl), blw⟩

/-! ### mbox_begun: function 68 -/
def mbox_begun.l0 : Nat → ByteArray → Int → Option (ByteArray × ByteArray × Int × Bool)
  | 0, _, _ => none
  | k + 1, x0, x5 => if x5 ≤ 25 then (if (x0.size : Int) < (wrap64 ((wrap64 (5 + x5)) + 1)) then (none) else (if 5 ≤ (wrap64 ((wrap64 ((x0.size : Int) - x5)) - 1)) then (if (wrap64 ((wrap64 ((x0.size : Int) - x5)) - 1)) ≤ (x0.size : Int) then ((addr_Parse.f k (x0.extract 5 ((wrap64 ((wrap64 ((x0.size : Int) - x5)) - 1)) : Int).toNat)).bind fun bt348 => (if 0 ≤ (wrap64 ((x0.size : Int) - x5)) then (if (wrap64 ((x0.size : Int) - x5)) ≤ (x0.size : Int) then ((mbox_moment.f k (x0.extract ((wrap64 ((x0.size : Int) - x5)) : Int).toNat x0.size)).bind fun bt352 => (if bt352.2 = true then (if bt348.2.2 = 0 then ((addr_Addr_Text.f k bt348.1 bt348.2.1).bind fun t354 => (if 5 + t354.size ≤ 9223372036854775807 then (if 5 + t354.size + 1 ≤ 9223372036854775807 then ((date_Line.f k bt352.1).bind fun t355 => (if 5 + t354.size + 1 + t355.size ≤ 9223372036854775807 then (if x0.toList = ((((⟨#[70, 114, 111, 109, 32]⟩ : ByteArray) ++ t354) ++ (⟨#[32]⟩ : ByteArray)) ++ t355).toList then (some (bt348.1, bt348.2.1, bt352.1, true)) else (none)) else (none))) else (none)) else (none))) else (none)) else (none))) else (none)) else (none))) else (none)) else (none))) else (none)
def mbox_begun.f (k : Nat) (a0 : ByteArray) : Option (ByteArray × ByteArray × Int × Bool) := mbox_begun.l0 k a0 24
theorem mbox_begun.mono_l : ∀ k, (∀ y0 y1, LeO (mbox_begun.l0 k y0 y1) (mbox_begun.l0 (k + 1) y0 y1))
  | 0 => fun _ _ r h => by simp [mbox_begun.l0] at h
  | k + 1 => by
    have ih0 := mbox_begun.mono_l k
    · intro y0 y1
      unfold mbox_begun.l0
      repeat' first | (with_reducible first | exact ih0 _ _ | exact addr_Addr_Text.mono _ _ _ | exact addr_Parse.mono _ _ | exact date_Line.mono _ _ | exact mbox_moment.mono _ _ | exact LeO.refl _ | exact LeO.none _ | refine LeO.ite ?_ ?_ | refine LeO.bind ?_ (fun _ => ?_)) | exact ih0 _ _ | exact addr_Addr_Text.mono _ _ _ | exact addr_Parse.mono _ _ | exact date_Line.mono _ _ | exact mbox_moment.mono _ _ | exact LeO.none _ | refine LeO.ite ?_ ?_ | refine LeO.bind ?_ (fun _ => ?_)
theorem mbox_begun.mono : ∀ a0 k, LeO (mbox_begun.f k a0) (mbox_begun.f (k + 1) a0) := by
  intro a0 k
  have ih0 := mbox_begun.mono_l k
  unfold mbox_begun.f
  repeat' first | (with_reducible first | exact ih0 _ _ | exact addr_Addr_Text.mono _ _ _ | exact addr_Parse.mono _ _ | exact date_Line.mono _ _ | exact mbox_moment.mono _ _ | exact LeO.refl _ | exact LeO.none _ | refine LeO.ite ?_ ?_ | refine LeO.bind ?_ (fun _ => ?_)) | exact ih0 _ _ | exact addr_Addr_Text.mono _ _ _ | exact addr_Parse.mono _ _ | exact date_Line.mono _ _ | exact mbox_moment.mono _ _ | exact LeO.none _ | refine LeO.ite ?_ ?_ | refine LeO.bind ?_ (fun _ => ?_)
set_option maxHeartbeats 8000000 in
set_option maxRecDepth 100000 in
theorem mbox_begun.calls (k : Nat) (a0 : ByteArray) (r1 : ByteArray) (r2 : ByteArray) (r3 : Int) (r4 : Bool) (w : World) (hG : Amb w) (h : mbox_begun.f k a0 = some (r1, r2, r3, r4)) :
    Calls Tryz.prog 68 #[.string a0] w fun e w' => e = .returned (.tuple #[.agg #[.string r1, .string r2], .int .i64 r3, .bool r4]) ∧ Below w.heap.size w w' := by
 have hu32 := Tryz.underlying32
 have HB := Aside0.mk (Below.refl w.heap.size w)
 unfold mbox_begun.f at h
 have H := h
 clear h
 have HG := Aside0.mk hG
 clear hG
 have H' := Aside0.mk H
 clear H
 go_enter Tryz.func68, Tryz.ntmps68
 go_wp2_with (first | ((with_reducible refine gate_dst (N := 2) rfl ?_); refine box_event ?hg (N := 2) ?hd (cs := #[.string (⟨#[]⟩ : ByteArray), .string (⟨#[]⟩ : ByteArray)]) (t := 32) ?hr ?_; (case hd => rfl); (case hg => rfl); (case hr => first | (go_simp; done) | (go_simp; rfl)); intro gb347 hg w2 hbox hb; have BK347 := Aside0.mk (hbox); have GW347 : Aside0 (w.heap.size ≤ gb347) := gw_ hg; have GE347 : Aside0 (w.heap.size ≤ gb347) := gw_ hg; replace HB := Aside0.mk (below_step blw hb); clear hb hbox hg))
 go_loopg [5] k (fun kq v5 w' => ∃ (x5_1 : Int) (x348000_1 : ByteArray) (x348001_1 : ByteArray), v5 = .int .i64 x5_1 ∧ Aside0 (mbox_begun.l0 kq a0 x5_1 = some (r1, r2, r3, r4)) ∧ Aside0 (kq ≤ k) ∧ Aside0 (w'.heap[gb347]? = some (.cells #[.string x348000_1, .string x348001_1] 32 (0, 0))) ∧ Aside0 (Below w.heap.size w w'))
 case atStart => exact ⟨(24), ((⟨#[]⟩ : ByteArray)), ((⟨#[]⟩ : ByteArray)), eqs, H', ⟨Nat.le_refl _⟩, ⟨bkw BK347⟩, ⟨blw⟩⟩
 case round =>
  clear H'
  try clear p2
  obtain ⟨x5_1, x348000_1, x348001_1, rfl, HA, HK1, BK347, HB⟩ := hrel
  cases gk with
  | zero => exact absurd HA.out (by simp [mbox_begun.l0])
  | succ k1 =>
   have H := HA.out
   clear HA
   simp only [mbox_begun.l0] at H
   obtain ⟨c3, H⟩ := iteS H
   have c3b0 := decide_eq_true c3
   clear c3
   obtain ⟨c4, H⟩ := iteN H
   have c4b0 := decide_eq_false c4
   clear c4
   obtain ⟨c5, H⟩ := iteS H
   have c5b0 := eq_true c5
   have c5b1 := decide_eq_true c5
   clear c5
   obtain ⟨c6, H⟩ := iteS H
   have c6b0 := eq_true c6
   have c6b1 := decide_eq_true c6
   clear c6
   replace H := Option.bind_eq_some_iff.mp H
   obtain ⟨⟨t348, t349, t350⟩, A70, H⟩ := H
   try dsimp only at H
   have A7 := Aside0.mk A70
   clear A70
   obtain ⟨ji8, hji8⟩ : ∃ j_ : Int, (wrap64 ((a0.size : Int) - x5_1)) = j_ := ⟨_, rfl⟩
   replace H : (if 0 ≤ (ji8) then (if (ji8) ≤ (a0.size : Int) then ((mbox_moment.f k1 (a0.extract ((ji8) : Int).toNat a0.size)).bind fun bt352 => (if bt352.2 = true then (if t350 = 0 then ((addr_Addr_Text.f k1 t348 t349).bind fun t354 => (if 5 + t354.size ≤ 9223372036854775807 then (if 5 + t354.size + 1 ≤ 9223372036854775807 then ((date_Line.f k1 bt352.1).bind fun t355 => (if 5 + t354.size + 1 + t355.size ≤ 9223372036854775807 then (if a0.toList = ((((⟨#[70, 114, 111, 109, 32]⟩ : ByteArray) ++ t354) ++ (⟨#[32]⟩ : ByteArray)) ++ t355).toList then (some (t348, t349, bt352.1, true)) else (none)) else (none))) else (none)) else (none))) else (none)) else (none))) else (none)) else (none)) = some (r1, r2, r3, r4) := by first | (rw [hji8] at H; exact H) | (simp only [hji8] at H ⊢; exact H)
   (try rw [hji8] at c5b0)
   (try rw [hji8] at c5b1)
   (try rw [hji8] at c6b0)
   (try rw [hji8] at c6b1)
   (try rw [hji8] at A7)
   have hji8w : (IntKind.i64.wrap ((a0.size : Int) - x5_1)) = ji8 := (i64_w _).trans hji8
   obtain ⟨c9, H⟩ := iteS H
   have c9b0 := eq_true c9
   have c9b1 := decide_eq_true c9
   clear c9
   obtain ⟨c10, H⟩ := iteS H
   have c10b0 := eq_true c10
   have c10b1 := decide_eq_true c10
   clear c10
   replace H := Option.bind_eq_some_iff.mp H
   obtain ⟨⟨t352, t353⟩, A110, H⟩ := H
   try dsimp only at H
   have A11 := Aside0.mk A110
   clear A110
   replace H := iteS H; obtain ⟨rfl, H⟩ := H
   obtain ⟨c13, H⟩ := iteS H
   have c13b0 := beq_iff_eq.mpr c13
   have c13b1 := bne_eq_false_iff_eq.mpr c13
   clear c13
   replace H := Option.bind_eq_some_iff.mp H
   obtain ⟨t354, A140, H⟩ := H
   try dsimp only at H
   have A14 := Aside0.mk A140
   clear A140
   obtain ⟨c15, H⟩ := iteS H
   have c15b0 := eq_true c15
   have c15b1 := decide_eq_true c15
   try have c15b2 := eq_false (Nat.not_lt.2 c15)
   obtain ⟨c16, H⟩ := iteS H
   have c16b0 := eq_true c16
   have c16b1 := decide_eq_true c16
   try have c16b2 := eq_false (Nat.not_lt.2 c16)
   replace H := Option.bind_eq_some_iff.mp H
   obtain ⟨t355, A170, H⟩ := H
   try dsimp only at H
   have A17 := Aside0.mk A170
   clear A170
   obtain ⟨c18, H⟩ := iteS H
   have c18b0 := eq_true c18
   have c18b1 := decide_eq_true c18
   try have c18b2 := eq_false (Nat.not_lt.2 c18)
   obtain ⟨c19, H⟩ := iteS H
   have c19b0 := beq_iff_eq.mpr c19
   have c19b1 := bne_eq_false_iff_eq.mpr c19
   clear c19
   simp only [Option.some.injEq, Prod.mk.injEq] at H
   obtain ⟨rfl, rfl, rfl, rfl⟩ := H
   go_wp2_with (first | ((with_reducible refine gc 99 rfl ?_); refine goesL_ (some 30) rfl rfl Tryz.func99 (by kernel_rfl) rfl #[.string (a0.extract 5 ((wrap64 ((ji8) - 1)) : Int).toNat)] rfl (by (try simp only [List.map_toArray, List.map_cons, List.map_nil]); first | done | (simp only [hji8]; rfl) | rfl | (simp only [List.length_drop, List.length_take]; rfl)) ?_; (with_reducible refine (addr_Parse.calls k1 (a0.extract 5 ((wrap64 ((ji8) - 1)) : Int).toNat) t348 t349 t350 _ A7.out).mono ?_); rintro e w20 ⟨rfl, hb⟩; refine ⟨_, rfl, ?_⟩; replace BK347 := Aside0.mk (blk_below (g := gb347) (o := .cells #[.string x348000_1, .string x348001_1] 32 (0, 0)) (bkw BK347) hb); replace HB := Aside0.mk (below_step blw hb); (try clear hb)) | ((with_reducible refine gate_dst (N := 7) rfl ?_); refine box_event ?hg (N := 7) ?hd (cs := #[.string (⟨#[]⟩ : ByteArray), .string (⟨#[]⟩ : ByteArray)]) (t := 32) ?hr ?_; (case hd => rfl); (case hg => rfl); (case hr => first | (go_simp; done) | (go_simp; rfl)); intro gb351 hg w21 hbox hb; have BK351 := Aside0.mk (hbox); have GW351 : Aside0 (w.heap.size ≤ gb351) := gw_ hg; have GE351 : Aside0 (w.heap.size ≤ gb351) := gw_ hg; replace HB := Aside0.mk (below_step blw hb); have NB347_351 := Aside0.mk ((by rw [hg]; exact Nat.ne_of_lt (blk_lt (g := gb347) (o := .cells #[.string x348000_1, .string x348001_1] 32 (0, 0)) (bkw BK347)) : gb347 ≠ gb351)); have NB351_347 := Aside0.mk ((by rw [hg]; exact Nat.ne_of_gt (blk_lt (g := gb347) (o := .cells #[.string x348000_1, .string x348001_1] 32 (0, 0)) (bkw BK347)) : gb351 ≠ gb347)); replace BK347 := Aside0.mk (blk_below (g := gb347) (o := .cells #[.string x348000_1, .string x348001_1] 32 (0, 0)) (bkw BK347) hb); clear hb hbox hg; have hnb22 := NB351_347.out; have hnc22 := NB347_351.out; have hcz23_0 : w21.cell? ⟨gb351, 0, none⟩ = some (.string (⟨#[]⟩ : ByteArray)) := bk_ BK351; have hcz23_1 : w21.cell? ⟨gb351, 1, none⟩ = some (.string (⟨#[]⟩ : ByteArray)) := bk_ BK351; have hfz23_0 := blk_frozen BK351.out 0; have hfz23_1 := blk_frozen BK351.out 1) | ((with_reducible refine gc 100 rfl ?_); refine goesL_ (some 37) rfl rfl Tryz.func100 (by kernel_rfl) rfl #[.string (a0.extract ((ji8) : Int).toNat a0.size)] rfl (by (try simp only [List.map_toArray, List.map_cons, List.map_nil]); first | done | (simp only [hji8]; rfl) | rfl | (simp only [List.length_drop, List.length_take]; rfl)) ?_; (with_reducible refine (mbox_moment.calls k1 (a0.extract ((ji8) : Int).toNat a0.size) t352 true _ ?side1 A11.out).mono ?_); (case side1 => exact Amb.at HG.out blw); rintro e w24 ⟨rfl, hb⟩; refine ⟨_, rfl, ?_⟩; replace BK347 := Aside0.mk (blk_below (g := gb347) (o := .cells #[.string x348000_1, .string x348001_1] 32 (0, 0)) (by (with_reducible repeat (first | refine blk_drewN ?_ _ | refine blk_drew ?_ | refine blk_alloc ?_ _)); refine blk_far ?_ NB347_351.out _; (with_reducible repeat (first | refine blk_drewN ?_ _ | refine blk_drew ?_ | refine blk_alloc ?_ _)); refine blk_far ?_ NB347_351.out _; (with_reducible repeat (first | refine blk_drewN ?_ _ | refine blk_drew ?_ | refine blk_alloc ?_ _)); exact BK347.out) hb); replace BK351 := Aside0.mk (blk_below (g := gb351) (o := .cells #[.string t348, .string t349] 32 (0, 0)) (by (with_reducible repeat (first | refine blk_drewN ?_ _ | refine blk_drew ?_ | refine blk_alloc ?_ _)); refine blk_put (cs := #[.string t348, .string (⟨#[]⟩ : ByteArray)]) ?_ 1 _ rfl; (with_reducible repeat (first | refine blk_drewN ?_ _ | refine blk_drew ?_ | refine blk_alloc ?_ _)); refine blk_put (cs := #[.string (⟨#[]⟩ : ByteArray), .string (⟨#[]⟩ : ByteArray)]) ?_ 0 _ rfl; (with_reducible repeat (first | refine blk_drewN ?_ _ | refine blk_drew ?_ | refine blk_alloc ?_ _)); exact BK351.out) hb); replace HB := Aside0.mk (below_step blw hb); (try clear hb); have hcz25_0 : w24.cell? ⟨gb351, 0, none⟩ = some (.string t348) := bk_ BK351; have hcz25_1 : w24.cell? ⟨gb351, 1, none⟩ = some (.string t349) := bk_ BK351; have hfz25_0 := blk_frozen BK351.out 0; have hfz25_1 := blk_frozen BK351.out 1) | (go_at_call 30; (with_reducible refine (addr_Addr_Text.calls k1 t348 t349 t354 _ A14.out).mono ?_); rintro e w26 ⟨rfl, hb⟩; replace BK347 := Aside0.mk (blk_below (g := gb347) (o := .cells #[.string x348000_1, .string x348001_1] 32 (0, 0)) (bkw BK347) hb); replace BK351 := Aside0.mk (blk_below (g := gb351) (o := .cells #[.string t348, .string t349] 32 (0, 0)) (bkw BK351) hb); replace HB := Aside0.mk (below_step blw hb); (try clear hb)) | (go_at_call 31; (with_reducible refine (date_Line.calls k1 t352 t355 _ ?side1 A17.out).mono ?_); (case side1 => exact Amb.at HG.out blw); rintro e w27 ⟨rfl, hb⟩; replace BK347 := Aside0.mk (blk_below (g := gb347) (o := .cells #[.string x348000_1, .string x348001_1] 32 (0, 0)) (bkw BK347) hb); replace BK351 := Aside0.mk (blk_below (g := gb351) (o := .cells #[.string t348, .string t349] 32 (0, 0)) (bkw BK351) hb); replace HB := Aside0.mk (below_step blw hb); (try clear hb); have hcz28_0 : w27.cell? ⟨gb351, 0, none⟩ = some (.string t348) := bk_ BK351; have hcz28_1 : w27.cell? ⟨gb351, 1, none⟩ = some (.string t349) := bk_ BK351; have hfz28_0 := blk_frozen BK351.out 0; have hfz28_1 := blk_frozen BK351.out 1; have hcz29_0 : w27.cell? ⟨gb347, 0, none⟩ = some (.string x348000_1) := bk_ BK347; have hcz29_1 : w27.cell? ⟨gb347, 1, none⟩ = some (.string x348001_1) := bk_ BK347; have hfz29_0 := blk_frozen BK347.out 0; have hfz29_1 := blk_frozen BK347.out 1))
   refine bodyPost_ret (results_ctt rfl _ _ gb347 32 #[.string t348, .string t349] (0, 0) _ rfl (by (with_reducible repeat (first | refine blk_drewN ?_ _ | refine blk_drew ?_ | refine blk_alloc ?_ _)); refine blk_put (cs := #[.string t348, .string x348001_1]) ?_ 1 _ rfl; (with_reducible repeat (first | refine blk_drewN ?_ _ | refine blk_drew ?_ | refine blk_alloc ?_ _)); refine blk_put (cs := #[.string x348000_1, .string x348001_1]) ?_ 0 _ rfl; (with_reducible repeat (first | refine blk_drewN ?_ _ | refine blk_drew ?_ | refine blk_alloc ?_ _)); exact BK347.out) Tryz.underlying32 rfl (by kernel_rfl)) rfl ?_
   exact ⟨by first | rfl | (simp [errW_none, errW_some] <;> rfl) | (simp only [← hji8]; first | rfl | (simp [errW_none, errW_some] <;> rfl)) | (simp [*, errW_none, errW_some] <;> rfl), blw⟩

end Go.Proofs.YtcpmoolpbeeedaaGreatDoor.Q
