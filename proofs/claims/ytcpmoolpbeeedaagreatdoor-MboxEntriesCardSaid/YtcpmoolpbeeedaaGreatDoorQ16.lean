-- Written by a program of this session (wip/myprint) out of the translation, for YtcpmoolpbeeedaaGreatDoor.
import Derived.Test.YtcpmoolpbeeedaaGreatDoorQ0
import Derived.Test.YtcpmoolpbeeedaaGreatDoorQ5
import Derived.Test.YtcpmoolpbeeedaaGreatDoorQ12
import Derived.Test.YtcpmoolpbeeedaaGreatDoorQ13
import Derived.Test.YtcpmoolpbeeedaaGreatDoorQ14
import Derived.Test.YtcpmoolpbeeedaaGreatDoorQ15
namespace Go.Proofs.YtcpmoolpbeeedaaGreatDoor.Q
open Go.RowKit Go.Proofs.YtcpmoolpbeeedaaGreatDoorW.PrintWords Go.Proofs.YtcpmoolpbeeedaaGreatDoorW.PrintLast Go.Proofs.YtcpmoolpbeeedaaGreatDoorW.PrintMore Go.Proofs.YtcpmoolpbeeedaaGreatDoorW.PrintSq
attribute [local go_sem] max2_int min2_int max_two min_two max_three min_three max_four min_four   -- for this text's walks alone
set_option linter.unusedVariables false
set_option linter.unusedSimpArgs false

/-! ### date_Read: function 130 -/
mutual
def date_Read.j0 : Nat → List ByteArray → Int → Option (Int × Int)
  | 0, _, _ => none
  | k + 1, x4, x5 => if (x4.length : Int) = 5 then (if 2 < (x4.length : Int) then ((date_number.f k (rdOf ByteArray.empty x4 2) 4 5).bind fun t317 => (if 1 < (x4.length : Int) then ((date_month.f (rdOf ByteArray.empty x4 1)).bind fun t319 => (if 0 < (x4.length : Int) then ((date_number.f k (rdOf ByteArray.empty x4 0) 1 2).bind fun t321 => (if 4 < (x4.length : Int) then ((date_zone.f k (rdOf ByteArray.empty x4 4)).bind fun bt324 => (if 3 < (x4.length : Int) then ((date_Time_hours.f k t317 t319 t321 0 0 0 0 (rdOf ByteArray.empty x4 3)).bind fun bt327 => (if bt327.1 = true then (if bt324.2 = true then (if bt327.2.1 < 0 then (none) else (if bt327.2.2.1 < 1 then (none) else (date_Read.j1 k x5 bt324.1 (decide (bt327.2.2.2.1 < 0)) bt327.2.1 bt327.2.2.1 bt327.2.2.2.1 bt327.2.2.2.2.1 bt327.2.2.2.2.2.1 bt327.2.2.2.2.2.2.1 bt327.2.2.2.2.2.2.2))) else (none)) else (none))) else (none))) else (none))) else (none))) else (none))) else (none)) else (none)
def date_Read.j1 : Nat → Int → Int → Bool → Int → Int → Int → Int → Int → Int → Int → Option (Int × Int)
  | 0, _, _, _, _, _, _, _, _, _, _ => none
  | k + 1, x5, x9, x81, x323000, x323001, x323002, x323003, x323004, x323005, x323006 => if x81 = true then (none) else ((date_Number.f k x323000 x323001 x323002 x323003 x323004 x323005 x323006).bind fun bt335 => (if bt335.2 = 0 then (if x5 ≥ 0 then (none) else (date_Read.j2 k x9 bt335.1 false)) else (none)))
def date_Read.j2 : Nat → Int → Int → Bool → Option (Int × Int)
  | 0, _, _, _ => none
  | k + 1, x9, x11, x99 => if x99 = true then (none) else ((date_moment.f (wrap64 (x11 - x9))).bind fun t337 => (if t337 = true then (some (wrap64 (x11 - x9), 0)) else (none)))
end
def date_Read.f (k : Nat) (a0 : ByteArray) : Option (Int × Int) := (glyph_Words.f a0).bind fun t306 => (if (t306.length : Int) = 6 then (none) else (date_Read.j0 k t306 (-1)))
theorem date_Read.mono_l : ∀ k, (∀ y0 y1, LeO (date_Read.j0 k y0 y1) (date_Read.j0 (k + 1) y0 y1)) ∧ (∀ y0 y1 y2 y3 y4 y5 y6 y7 y8 y9, LeO (date_Read.j1 k y0 y1 y2 y3 y4 y5 y6 y7 y8 y9) (date_Read.j1 (k + 1) y0 y1 y2 y3 y4 y5 y6 y7 y8 y9)) ∧ (∀ y0 y1 y2, LeO (date_Read.j2 k y0 y1 y2) (date_Read.j2 (k + 1) y0 y1 y2))
  | 0 => ⟨fun _ _ r h => by simp [date_Read.j0] at h, fun _ _ _ _ _ _ _ _ _ _ r h => by simp [date_Read.j1] at h, fun _ _ _ r h => by simp [date_Read.j2] at h⟩
  | k + 1 => by
    obtain ⟨ih0, ih1, ih2⟩ := date_Read.mono_l k
    refine ⟨?_, ?_, ?_⟩
    · intro y0 y1
      unfold date_Read.j0
      repeat' first | (with_reducible first | exact ih0 _ _ | exact ih1 _ _ _ _ _ _ _ _ _ _ | exact ih2 _ _ _ | exact date_Number.mono _ _ _ _ _ _ _ _ | exact date_Time_hours.mono _ _ _ _ _ _ _ _ _ | exact date_number.mono _ _ _ _ | exact date_zone.mono _ _ | exact LeO.refl _ | exact LeO.none _ | refine LeO.ite ?_ ?_ | refine LeO.bind ?_ (fun _ => ?_)) | exact ih0 _ _ | exact ih1 _ _ _ _ _ _ _ _ _ _ | exact ih2 _ _ _ | exact date_Number.mono _ _ _ _ _ _ _ _ | exact date_Time_hours.mono _ _ _ _ _ _ _ _ _ | exact date_number.mono _ _ _ _ | exact date_zone.mono _ _ | exact LeO.none _ | refine LeO.ite ?_ ?_ | refine LeO.bind ?_ (fun _ => ?_)
    · intro y0 y1 y2 y3 y4 y5 y6 y7 y8 y9
      unfold date_Read.j1
      repeat' first | (with_reducible first | exact ih0 _ _ | exact ih1 _ _ _ _ _ _ _ _ _ _ | exact ih2 _ _ _ | exact date_Number.mono _ _ _ _ _ _ _ _ | exact date_Time_hours.mono _ _ _ _ _ _ _ _ _ | exact date_number.mono _ _ _ _ | exact date_zone.mono _ _ | exact LeO.refl _ | exact LeO.none _ | refine LeO.ite ?_ ?_ | refine LeO.bind ?_ (fun _ => ?_)) | exact ih0 _ _ | exact ih1 _ _ _ _ _ _ _ _ _ _ | exact ih2 _ _ _ | exact date_Number.mono _ _ _ _ _ _ _ _ | exact date_Time_hours.mono _ _ _ _ _ _ _ _ _ | exact date_number.mono _ _ _ _ | exact date_zone.mono _ _ | exact LeO.none _ | refine LeO.ite ?_ ?_ | refine LeO.bind ?_ (fun _ => ?_)
    · intro y0 y1 y2
      unfold date_Read.j2
      repeat' first | (with_reducible first | exact ih0 _ _ | exact ih1 _ _ _ _ _ _ _ _ _ _ | exact ih2 _ _ _ | exact date_Number.mono _ _ _ _ _ _ _ _ | exact date_Time_hours.mono _ _ _ _ _ _ _ _ _ | exact date_number.mono _ _ _ _ | exact date_zone.mono _ _ | exact LeO.refl _ | exact LeO.none _ | refine LeO.ite ?_ ?_ | refine LeO.bind ?_ (fun _ => ?_)) | exact ih0 _ _ | exact ih1 _ _ _ _ _ _ _ _ _ _ | exact ih2 _ _ _ | exact date_Number.mono _ _ _ _ _ _ _ _ | exact date_Time_hours.mono _ _ _ _ _ _ _ _ _ | exact date_number.mono _ _ _ _ | exact date_zone.mono _ _ | exact LeO.none _ | refine LeO.ite ?_ ?_ | refine LeO.bind ?_ (fun _ => ?_)
theorem date_Read.mono : ∀ a0 k, LeO (date_Read.f k a0) (date_Read.f (k + 1) a0) := by
  intro a0 k
  obtain ⟨ih0, ih1, ih2⟩ := date_Read.mono_l k
  unfold date_Read.f
  repeat' first | (with_reducible first | exact ih0 _ _ | exact ih1 _ _ _ _ _ _ _ _ _ _ | exact ih2 _ _ _ | exact date_Number.mono _ _ _ _ _ _ _ _ | exact date_Time_hours.mono _ _ _ _ _ _ _ _ _ | exact date_number.mono _ _ _ _ | exact date_zone.mono _ _ | exact LeO.refl _ | exact LeO.none _ | refine LeO.ite ?_ ?_ | refine LeO.bind ?_ (fun _ => ?_)) | exact ih0 _ _ | exact ih1 _ _ _ _ _ _ _ _ _ _ | exact ih2 _ _ _ | exact date_Number.mono _ _ _ _ _ _ _ _ | exact date_Time_hours.mono _ _ _ _ _ _ _ _ _ | exact date_number.mono _ _ _ _ | exact date_zone.mono _ _ | exact LeO.none _ | refine LeO.ite ?_ ?_ | refine LeO.bind ?_ (fun _ => ?_)
def date_Read.T11 : Bool × List (List Nat × List Nat) := (true, [([], []), ([0], [0]), ([1], [1]), ([2], [2]), ([], []), ([4], [4]), ([5], [5]), ([6, 3], [6]), ([], []), ([8], [8]), ([9], [9]), ([10, 7], [10]), ([3, 7, 11], [3, 7, 11]), ([], []), ([13, 12, 11, 0, 1, 2, 3, 4, 5, 6, 7, 8, 9, 10, 11, 12, 13], [12, 13])])
def date_Read.B11 : List Nat := [0, 1, 3, 7, 0, 16, 48, 127, 0, 256, 768, 2047, 4095, 0, 16383]
theorem date_Read.tab11 : rtab .any (opsOf Tryz.f130 11) = date_Read.T11 := by kernel_rfl
theorem date_Read.bits11 : waitsOk date_Read.T11.2 date_Read.B11 = true := by kernel_rfl
set_option maxHeartbeats 8000000 in
set_option maxRecDepth 100000 in
theorem date_Read.calls (k : Nat) (a0 : ByteArray) (r1 : Int) (r2 : Int) (w : World) (hG : Amb w) (h : date_Read.f k a0 = some (r1, r2)) :
    Calls Tryz.prog 130 #[.string a0] w fun e w' => e = .returned (.tuple #[.int .i64 r1, .int .i64 r2]) ∧ Below w.heap.size w w' := by
 have hu67 := Tryz.underlying67
 have HB := Aside0.mk (Below.refl w.heap.size w)
 unfold date_Read.f at h
 have H := h
 clear h
 have HG := Aside0.mk hG
 clear hG
 replace H := Option.bind_eq_some_iff.mp H
 obtain ⟨t306, A20, H⟩ := H
 try dsimp only at H
 have A2 := Aside0.mk A20
 clear A20
 have HC3 := Aside0.mk H
 clear H
 go_enter Tryz.func130, Tryz.ntmps130
 go_upto_if 17 with (first | ((with_reducible refine gc 153 rfl ?_); refine gl_ (some 14) Tryz.func153 #[.string a0] ?_; (with_reducible refine (glyph_Words.calls a0 t306 _ A2.out).mono ?_); rintro e w4 ⟨v307, rfl, ho0, hb⟩; refine ⟨_, rfl, ?_⟩; have HO308 := Aside0.mk (Kd.R_lower ho0 (below_size blw)); replace HB := Aside0.mk (below_step blw hb); (try clear hb); (try clear ho0); obtain ⟨Ao5, co5, eo5⟩ := Kd.R_slice HO308.out; subst eo5))
 (try simp only [Act.put, List.setIfInBounds_toArray, List.set_cons_zero, List.set_cons_succ])
 go_cut [4, 5] (fun v4 v5 wc => ∃ (kq : Nat) (x4_2 : List ByteArray) (x5_2 : Int), v5 = .int .i64 x5_2 ∧ Aside0 (date_Read.j0 kq x4_2 x5_2 = some (r1, r2)) ∧ Aside0 (kq ≤ k) ∧ Aside0 (Kd.Q Kd.string 9 wc w.heap.size (fun _ => True) v4 x4_2) ∧ Aside0 (Below w.heap.size w wc))
 case first =>
  have H := HC3.out
  clear HC3
  obtain ⟨c6, H⟩ := iteN H
  have c6b0 := beq_eq_false_iff_ne.mpr c6
  have c6b1 := bne_iff_ne.mpr c6
  (first | rw [c6b0] | (simp only [i64_w, i32_w]; rw [c6b0]) | skip)
  have H' := Aside0.mk H
  clear H
  go_wp2
  go_meet
  case rel => exact ⟨_, (t306), ((-1)), eqs, H', omk, ⟨Kd.Q_of_R (by (with_reducible repeat (first | apply Kd.R_alloc | apply Kd.R_drewN | apply Kd.R_drew)); exact HO308.out)⟩, ⟨blw⟩⟩
 case rest =>
  clear HC3
  try clear c1
  try clear p2
  try clear c6
  try clear c6b0
  try clear c6b1
  obtain ⟨kq, x4_2, x5_2, rfl, HA, HJ2, HO_4, HB⟩ := hcut
  cases kq with
  | zero => exact absurd HA.out (by simp [date_Read.j0])
  | succ kj2 =>
   have H := HA.out
   clear HA
   simp only [date_Read.j0] at H
   obtain ⟨c7, H⟩ := iteS H
   have c7b0 := beq_iff_eq.mpr c7
   have c7b1 := bne_eq_false_iff_eq.mpr c7
   clear c7
   obtain ⟨c8, H⟩ := iteS H
   have c8b0 := decide_eq_true c8
   have c8b1 : decide (2 < x4_2.length) = true := decide_eq_true (by omega)
   clear c8
   replace H := Option.bind_eq_some_iff.mp H
   obtain ⟨t317, A90, H⟩ := H
   try dsimp only at H
   have A9 := Aside0.mk A90
   clear A90
   obtain ⟨c10, H⟩ := iteS H
   have c10b0 := decide_eq_true c10
   have c10b1 : decide (1 < x4_2.length) = true := decide_eq_true (by omega)
   clear c10
   replace H := Option.bind_eq_some_iff.mp H
   obtain ⟨t319, A110, H⟩ := H
   try dsimp only at H
   have A11 := Aside0.mk A110
   clear A110
   obtain ⟨c12, H⟩ := iteS H
   have c12b0 := decide_eq_true c12
   have c12b1 : decide (0 < x4_2.length) = true := decide_eq_true (by omega)
   clear c12
   replace H := Option.bind_eq_some_iff.mp H
   obtain ⟨t321, A130, H⟩ := H
   try dsimp only at H
   have A13 := Aside0.mk A130
   clear A130
   obtain ⟨c14, H⟩ := iteS H
   have c14b0 := decide_eq_true c14
   have c14b1 : decide (4 < x4_2.length) = true := decide_eq_true (by omega)
   clear c14
   replace H := Option.bind_eq_some_iff.mp H
   obtain ⟨⟨t324, t325⟩, A150, H⟩ := H
   try dsimp only at H
   have A15 := Aside0.mk A150
   clear A150
   have HC16 := Aside0.mk H
   clear H
   obtain ⟨Ao17, co17, eo17, _⟩ := Kd.Q_slice HO_4.out
   subst eo17
   try go_wp2
   replace HO_4 := Aside0.mk (Kd.Q_drew HO_4.out)
   replace HB := Aside0.mk (below_drew1 HB.out)
   have p316 : 0 ≤ (2 : Int) := (by omega)
   have q316 : 2 < (x4_2.length : Int) := od_
   obtain ⟨ad316, e316, hx316_0⟩ := Kd.at_string (Kd.Q_reads' HO_4.out).2.2 2 p316 q316
   cases e316
   (try simp only [show (2 : Int).toNat = 2 from rfl, Nat.reduceMul, Nat.reduceEqDiff, Go.Addr.add, ↓reduceIte] at hx316_0)
   have qi316 : (2 < x4_2.length) = True := eq_true (by omega)
   (try rw [show ((2 : Int)).toNat = 2 from rfl] at hx316_0)
   replace p316 := eq_true p316
   replace q316 := eq_true q316
   have p318 : 0 ≤ (1 : Int) := (by omega)
   have q318 : 1 < (x4_2.length : Int) := od_
   obtain ⟨ad318, e318, hx318_0⟩ := Kd.at_string (Kd.Q_reads' HO_4.out).2.2 1 p318 q318
   obtain rfl : ad316 = ad318 := (by injection e318)
   (try simp only [show (1 : Int).toNat = 1 from rfl, Nat.reduceMul, Nat.reduceEqDiff, Go.Addr.add, ↓reduceIte] at hx318_0)
   have qi318 : (1 < x4_2.length) = True := eq_true (by omega)
   (try rw [show ((1 : Int)).toNat = 1 from rfl] at hx318_0)
   replace p318 := eq_true p318
   replace q318 := eq_true q318
   have p320 : 0 ≤ (0 : Int) := (by omega)
   have q320 : 0 < (x4_2.length : Int) := od_
   obtain ⟨ad320, e320, hx320_0⟩ := Kd.at_string (Kd.Q_reads' HO_4.out).2.2 0 p320 q320
   obtain rfl : ad316 = ad320 := (by injection e320)
   have qi320 : (0 < x4_2.length) = True := eq_true (by omega)
   (try rw [show ((0 : Int)).toNat = 0 from rfl] at hx320_0)
   (try rw [Addr.add_zero'] at hx320_0)
   replace p320 := eq_true p320
   replace q320 := eq_true q320
   refine start_ (n := 15) (S := fun w' => w'.cell? ⟨ad316.block, ad316.off + 2, none⟩ = some (.string (rdOf ByteArray.empty x4_2 2)) ∧ w'.cell? ⟨ad316.block, ad316.off + 1, none⟩ = some (.string (rdOf ByteArray.empty x4_2 1)) ∧ w'.cell? ad316 = some (.string (rdOf ByteArray.empty x4_2 0))) (ds := []) (ba 15 0) (by kernel_rfl) rfl rfl ⟨hx316_0, hx318_0, hx320_0⟩ (fun hHeld => ?_); refine with_tabW date_Read.tab11 date_Read.bits11 (fun HT_ HW_ => ?_)
   generalize wc.drew = w18 at HO_4 HB hx316_0 hx318_0 hx320_0 hHeld ⊢
   refine pu_ 0 38 1 ?_
   refine pu_ 1 39 3 ?_
   refine pu_ 4 42 19 ?_
   refine pu_ 5 43 51 ?_
   refine pu_ 8 46 307 ?_
   refine pu_ 9 47 819 ?_
   refine tk_ 2 40 823 hHeld ?_
   refine tk_ 6 44 887 hHeld ?_
   refine tk_ 10 48 1911 hHeld ?_
   refine join_ (σ := Nat) 1 (ba 15 16383) (fun s_ => [(41, .int .i64 t317), (45, .int .i64 t319), (49, .int .i64 t321), (8, .pointer (some ⟨s_, 0, none⟩)), (50, .agg #[.int .i64 t317, .int .i64 t319, .int .i64 t321, .int .i64 0, .int .i64 0, .int .i64 0, .int .i64 0])]) (fun s_ w' => (w'.cell? ⟨ad316.block, ad316.off + 2, none⟩ = some (.string (rdOf ByteArray.empty x4_2 2)) ∧ w'.cell? ⟨ad316.block, ad316.off + 1, none⟩ = some (.string (rdOf ByteArray.empty x4_2 1)) ∧ w'.cell? ad316 = some (.string (rdOf ByteArray.empty x4_2 0))) ∧ (Kd.Q Kd.string 9 w' w.heap.size (fun _ => True) (.slice (some ad316) x4_2.length co17) x4_2) ∧ (w'.heap[s_]? = some (.cells #[.int .i64 0, .int .i64 0, .int .i64 0, .int .i64 0, .int .i64 0, .int .i64 0, .int .i64 0] 67 (0, 0))) ∧ (w.heap.size ≤ s_) ∧ (w.heap.size ≤ s_) ∧ (Below w.heap.size w w')) ?_ ?_
   rotate_left
   ·intro hCont
    refine two_ (i := 3) (j := 13) (Ni := some 41) (Nj := some 8) (ba 15 1919) (ba 15 10103) rfl rfl rfl rfl (two_of HT_.out (by kernel_rfl)) (by decide) (by decide) (fun K hK => ?_) (fun K hK => ?_)
    ·skip
     refine go1 Tryz.func155 #[.string (rdOf ByteArray.empty x4_2 2), .int .i64 4, .int .i64 5] ?_
     with_reducible refine (date_number.calls kj2 (rdOf ByteArray.empty x4_2 2) 4 5 t317 _ A9.out).mono ?_
     rintro e w' ⟨rfl, ⟨nd, rfl⟩⟩
     refine ⟨_, rfl, ?_⟩
     refine hK.out _ _ ⟨hHeld.1, hHeld.2.1, hHeld.2.2⟩ (fun hHeld => ?_)
     clear hK K
     refine nm_ (some 41) ?_
     refine two_ (i := 7) (j := 13) (Ni := some 45) (Nj := some 8) (ba 15 2047) (ba 15 10111) rfl rfl rfl rfl (two_of HT_.out (by kernel_rfl)) (by decide) (by decide) (fun K hK => ?_) (fun K hK => ?_)
     ·skip
      refine go1 Tryz.func156 #[.string (rdOf ByteArray.empty x4_2 1)] ?_
      with_reducible refine (date_month.calls (rdOf ByteArray.empty x4_2 1) t319 _ ?side1 A11.out).mono ?_
      (case side1 => exact Amb.at HG.out blw)
      rintro e w19 ⟨rfl, hb⟩
      have HS0_ := (hb.cell (World.block_lt_of_cell? _ _ (hHeld.1))).trans (hHeld.1)
      have HS1_ := (hb.cell (World.block_lt_of_cell? _ _ (hHeld.2.1))).trans (hHeld.2.1)
      have HS2_ := (hb.cell (World.block_lt_of_cell? _ _ (hHeld.2.2))).trans (hHeld.2.2)
      refine ⟨_, rfl, ?_⟩
      replace HO_4 := Aside0.mk (Kd.Q_below (by (with_reducible repeat (first | apply Kd.Q_alloc | apply Kd.Q_drewN | apply Kd.Q_drew)); exact HO_4.out) hb)
      replace HB := Aside0.mk (below_step blw hb)
      (try clear hb)
      refine hK.out _ _ ⟨HS0_, HS1_, HS2_⟩ (fun hHeld => ?_)
      clear hK K
      refine nm_ (some 45) ?_
      refine two_ (i := 11) (j := 13) (Ni := some 49) (Nj := some 8) (ba 15 4095) (ba 15 10239) rfl rfl rfl rfl (two_of HT_.out (by kernel_rfl)) (by decide) (by decide) (fun K hK => ?_) (fun K hK => ?_)
      ·skip
       refine go1 Tryz.func155 #[.string (rdOf ByteArray.empty x4_2 0), .int .i64 1, .int .i64 2] ?_
       with_reducible refine (date_number.calls kj2 (rdOf ByteArray.empty x4_2 0) 1 2 t321 _ A13.out).mono ?_
       rintro e w' ⟨rfl, ⟨nd, rfl⟩⟩
       refine ⟨_, rfl, ?_⟩
       refine hK.out _ _ ⟨hHeld.1, hHeld.2.1, hHeld.2.2⟩ (fun hHeld => ?_)
       clear hK K
       refine nm_ (some 49) ?_
       refine pu_ 12 50 8191 ?_
       refine one1 13 (some 8) 16383 (fun K hK => ?_)
       refine box_step ?hg (N := 8) ?hd (cs := #[.int .i64 0, .int .i64 0, .int .i64 0, .int .i64 0, .int .i64 0, .int .i64 0, .int .i64 0]) (t := 67) ?hr ?_; (case hd => rfl); (case hg => rfl); (case hr => first | (go_simp; done) | (go_simp; rfl))
       intro gb322 hg w20 hbox hb
       have HS0_ := (hb.cell (World.block_lt_of_cell? _ _ (hHeld.1))).trans (hHeld.1)
       have HS1_ := (hb.cell (World.block_lt_of_cell? _ _ (hHeld.2.1))).trans (hHeld.2.1)
       have HS2_ := (hb.cell (World.block_lt_of_cell? _ _ (hHeld.2.2))).trans (hHeld.2.2)
       have n0_ := Aside0.mk (Kd.Q_below (by (with_reducible repeat (first | apply Kd.Q_alloc | apply Kd.Q_drewN | apply Kd.Q_drew)); exact HO_4.out) hb)
       have n1_ := Aside0.mk (below_step blw hb)
       have n2_ := Aside0.mk (hbox)
       have n3_ := Aside0.mk ((by rw [hg]; exact (below_size blw) : w.heap.size ≤ gb322))
       have n4_ := Aside0.mk ((by rw [hg]; exact (below_size blw) : w.heap.size ≤ gb322))
       clear HO_4
       clear HB
       have HO_4 := n0_
       have HB := n1_
       have BK322 := n2_
       have GW322 := n3_
       have GE322 := n4_
       clear n0_ n1_ n2_ n3_ n4_
       clear hb hbox hg
       refine hK.out _ _ ⟨HS0_, HS1_, HS2_⟩ (fun hHeld => ?_)
       clear hK K
       refine nm_ (some 8) ?_
       exact norm_ (by simp only [putAll, Act.put, List.setIfInBounds_toArray, List.set_cons_zero, List.set_cons_succ]) (hCont (gb322) _ ⟨hHeld, (by (with_reducible repeat (first | apply Kd.Q_alloc | apply Kd.Q_drewN | apply Kd.Q_drew)); exact HO_4.out), (bkw BK322), GW322.out, GE322.out, blw⟩)
      ·skip
       refine box_step ?hg (N := 8) ?hd (cs := #[.int .i64 0, .int .i64 0, .int .i64 0, .int .i64 0, .int .i64 0, .int .i64 0, .int .i64 0]) (t := 67) ?hr ?_; (case hd => rfl); (case hg => rfl); (case hr => first | (go_simp; done) | (go_simp; rfl))
       intro gb322 hg w20 hbox hb
       have HS0_ := (hb.cell (World.block_lt_of_cell? _ _ (hHeld.1))).trans (hHeld.1)
       have HS1_ := (hb.cell (World.block_lt_of_cell? _ _ (hHeld.2.1))).trans (hHeld.2.1)
       have HS2_ := (hb.cell (World.block_lt_of_cell? _ _ (hHeld.2.2))).trans (hHeld.2.2)
       have n0_ := Aside0.mk (Kd.Q_below (by (with_reducible repeat (first | apply Kd.Q_alloc | apply Kd.Q_drewN | apply Kd.Q_drew)); exact HO_4.out) hb)
       have n1_ := Aside0.mk (below_step blw hb)
       have n2_ := Aside0.mk (hbox)
       have n3_ := Aside0.mk ((by rw [hg]; exact (below_size blw) : w.heap.size ≤ gb322))
       have n4_ := Aside0.mk ((by rw [hg]; exact (below_size blw) : w.heap.size ≤ gb322))
       clear HO_4
       clear HB
       have HO_4 := n0_
       have HB := n1_
       have BK322 := n2_
       have GW322 := n3_
       have GE322 := n4_
       clear n0_ n1_ n2_ n3_ n4_
       clear hb hbox hg
       refine hK.out _ _ ⟨HS0_, HS1_, HS2_⟩ (fun hHeld => ?_)
       clear hK K
       refine nm_ (some 8) ?_
       refine one1 11 (some 49) 12287 (fun K hK => ?_)
       refine go1 Tryz.func155 #[.string (rdOf ByteArray.empty x4_2 0), .int .i64 1, .int .i64 2] ?_
       with_reducible refine (date_number.calls kj2 (rdOf ByteArray.empty x4_2 0) 1 2 t321 _ A13.out).mono ?_
       rintro e w' ⟨rfl, ⟨nd, rfl⟩⟩
       refine ⟨_, rfl, ?_⟩
       refine hK.out _ _ ⟨hHeld.1, hHeld.2.1, hHeld.2.2⟩ (fun hHeld => ?_)
       clear hK K
       refine nm_ (some 49) ?_
       refine pu_ 12 50 16383 ?_
       exact norm_ (by simp only [putAll, Act.put, List.setIfInBounds_toArray, List.set_cons_zero, List.set_cons_succ]) (hCont (gb322) _ ⟨hHeld, (by (with_reducible repeat (first | apply Kd.Q_alloc | apply Kd.Q_drewN | apply Kd.Q_drew)); exact HO_4.out), (bkw BK322), GW322.out, GE322.out, blw⟩)
     ·skip
      refine box_step ?hg (N := 8) ?hd (cs := #[.int .i64 0, .int .i64 0, .int .i64 0, .int .i64 0, .int .i64 0, .int .i64 0, .int .i64 0]) (t := 67) ?hr ?_; (case hd => rfl); (case hg => rfl); (case hr => first | (go_simp; done) | (go_simp; rfl))
      intro gb322 hg w19 hbox hb
      have HS0_ := (hb.cell (World.block_lt_of_cell? _ _ (hHeld.1))).trans (hHeld.1)
      have HS1_ := (hb.cell (World.block_lt_of_cell? _ _ (hHeld.2.1))).trans (hHeld.2.1)
      have HS2_ := (hb.cell (World.block_lt_of_cell? _ _ (hHeld.2.2))).trans (hHeld.2.2)
      have n0_ := Aside0.mk (Kd.Q_below (by (with_reducible repeat (first | apply Kd.Q_alloc | apply Kd.Q_drewN | apply Kd.Q_drew)); exact HO_4.out) hb)
      have n1_ := Aside0.mk (below_step blw hb)
      have n2_ := Aside0.mk (hbox)
      have n3_ := Aside0.mk ((by rw [hg]; exact (below_size blw) : w.heap.size ≤ gb322))
      have n4_ := Aside0.mk ((by rw [hg]; exact (below_size blw) : w.heap.size ≤ gb322))
      clear HO_4
      clear HB
      have HO_4 := n0_
      have HB := n1_
      have BK322 := n2_
      have GW322 := n3_
      have GE322 := n4_
      clear n0_ n1_ n2_ n3_ n4_
      clear hb hbox hg
      refine hK.out _ _ ⟨HS0_, HS1_, HS2_⟩ (fun hHeld => ?_)
      clear hK K
      refine nm_ (some 8) ?_
      refine one1 7 (some 45) 10239 (fun K hK => ?_)
      refine go1 Tryz.func156 #[.string (rdOf ByteArray.empty x4_2 1)] ?_
      with_reducible refine (date_month.calls (rdOf ByteArray.empty x4_2 1) t319 _ ?side1 A11.out).mono ?_
      (case side1 => exact Amb.at HG.out blw)
      rintro e w20 ⟨rfl, hb⟩
      have HS0_ := (hb.cell (World.block_lt_of_cell? _ _ (hHeld.1))).trans (hHeld.1)
      have HS1_ := (hb.cell (World.block_lt_of_cell? _ _ (hHeld.2.1))).trans (hHeld.2.1)
      have HS2_ := (hb.cell (World.block_lt_of_cell? _ _ (hHeld.2.2))).trans (hHeld.2.2)
      refine ⟨_, rfl, ?_⟩
      replace HO_4 := Aside0.mk (Kd.Q_below (by (with_reducible repeat (first | apply Kd.Q_alloc | apply Kd.Q_drewN | apply Kd.Q_drew)); exact HO_4.out) hb)
      replace BK322 := Aside0.mk (blk_below (g := gb322) (o := .cells #[.int .i64 0, .int .i64 0, .int .i64 0, .int .i64 0, .int .i64 0, .int .i64 0, .int .i64 0] 67 (0, 0)) (bkw BK322) hb)
      replace HB := Aside0.mk (below_step blw hb)
      (try clear hb)
      refine hK.out _ _ ⟨HS0_, HS1_, HS2_⟩ (fun hHeld => ?_)
      clear hK K
      refine nm_ (some 45) ?_
      refine one1 11 (some 49) 12287 (fun K hK => ?_)
      refine go1 Tryz.func155 #[.string (rdOf ByteArray.empty x4_2 0), .int .i64 1, .int .i64 2] ?_
      with_reducible refine (date_number.calls kj2 (rdOf ByteArray.empty x4_2 0) 1 2 t321 _ A13.out).mono ?_
      rintro e w' ⟨rfl, ⟨nd, rfl⟩⟩
      refine ⟨_, rfl, ?_⟩
      refine hK.out _ _ ⟨hHeld.1, hHeld.2.1, hHeld.2.2⟩ (fun hHeld => ?_)
      clear hK K
      refine nm_ (some 49) ?_
      refine pu_ 12 50 16383 ?_
      exact norm_ (by simp only [putAll, Act.put, List.setIfInBounds_toArray, List.set_cons_zero, List.set_cons_succ]) (hCont (gb322) _ ⟨hHeld, (by (with_reducible repeat (first | apply Kd.Q_alloc | apply Kd.Q_drewN | apply Kd.Q_drew)); exact HO_4.out), (bkw BK322), GW322.out, GE322.out, blw⟩)
    ·skip
     refine box_step ?hg (N := 8) ?hd (cs := #[.int .i64 0, .int .i64 0, .int .i64 0, .int .i64 0, .int .i64 0, .int .i64 0, .int .i64 0]) (t := 67) ?hr ?_; (case hd => rfl); (case hg => rfl); (case hr => first | (go_simp; done) | (go_simp; rfl))
     intro gb322 hg w19 hbox hb
     have HS0_ := (hb.cell (World.block_lt_of_cell? _ _ (hHeld.1))).trans (hHeld.1)
     have HS1_ := (hb.cell (World.block_lt_of_cell? _ _ (hHeld.2.1))).trans (hHeld.2.1)
     have HS2_ := (hb.cell (World.block_lt_of_cell? _ _ (hHeld.2.2))).trans (hHeld.2.2)
     have n0_ := Aside0.mk (Kd.Q_below (by (with_reducible repeat (first | apply Kd.Q_alloc | apply Kd.Q_drewN | apply Kd.Q_drew)); exact HO_4.out) hb)
     have n1_ := Aside0.mk (below_step blw hb)
     have n2_ := Aside0.mk (hbox)
     have n3_ := Aside0.mk ((by rw [hg]; exact (below_size blw) : w.heap.size ≤ gb322))
     have n4_ := Aside0.mk ((by rw [hg]; exact (below_size blw) : w.heap.size ≤ gb322))
     clear HO_4
     clear HB
     have HO_4 := n0_
     have HB := n1_
     have BK322 := n2_
     have GW322 := n3_
     have GE322 := n4_
     clear n0_ n1_ n2_ n3_ n4_
     clear hb hbox hg
     refine hK.out _ _ ⟨HS0_, HS1_, HS2_⟩ (fun hHeld => ?_)
     clear hK K
     refine nm_ (some 8) ?_
     refine one1 3 (some 41) 10111 (fun K hK => ?_)
     refine go1 Tryz.func155 #[.string (rdOf ByteArray.empty x4_2 2), .int .i64 4, .int .i64 5] ?_
     with_reducible refine (date_number.calls kj2 (rdOf ByteArray.empty x4_2 2) 4 5 t317 _ A9.out).mono ?_
     rintro e w' ⟨rfl, ⟨nd, rfl⟩⟩
     refine ⟨_, rfl, ?_⟩
     refine hK.out _ _ ⟨hHeld.1, hHeld.2.1, hHeld.2.2⟩ (fun hHeld => ?_)
     clear hK K
     refine nm_ (some 41) ?_
     refine one1 7 (some 45) 10239 (fun K hK => ?_)
     refine go1 Tryz.func156 #[.string (rdOf ByteArray.empty x4_2 1)] ?_
     with_reducible refine (date_month.calls (rdOf ByteArray.empty x4_2 1) t319 _ ?side1 A11.out).mono ?_
     (case side1 => exact Amb.at HG.out blw)
     rintro e w20 ⟨rfl, hb⟩
     have HS0_ := (hb.cell (World.block_lt_of_cell? _ _ (hHeld.1))).trans (hHeld.1)
     have HS1_ := (hb.cell (World.block_lt_of_cell? _ _ (hHeld.2.1))).trans (hHeld.2.1)
     have HS2_ := (hb.cell (World.block_lt_of_cell? _ _ (hHeld.2.2))).trans (hHeld.2.2)
     refine ⟨_, rfl, ?_⟩
     replace HO_4 := Aside0.mk (Kd.Q_below (by (with_reducible repeat (first | apply Kd.Q_alloc | apply Kd.Q_drewN | apply Kd.Q_drew)); exact HO_4.out) hb)
     replace BK322 := Aside0.mk (blk_below (g := gb322) (o := .cells #[.int .i64 0, .int .i64 0, .int .i64 0, .int .i64 0, .int .i64 0, .int .i64 0, .int .i64 0] 67 (0, 0)) (bkw BK322) hb)
     replace HB := Aside0.mk (below_step blw hb)
     (try clear hb)
     refine hK.out _ _ ⟨HS0_, HS1_, HS2_⟩ (fun hHeld => ?_)
     clear hK K
     refine nm_ (some 45) ?_
     refine one1 11 (some 49) 12287 (fun K hK => ?_)
     refine go1 Tryz.func155 #[.string (rdOf ByteArray.empty x4_2 0), .int .i64 1, .int .i64 2] ?_
     with_reducible refine (date_number.calls kj2 (rdOf ByteArray.empty x4_2 0) 1 2 t321 _ A13.out).mono ?_
     rintro e w' ⟨rfl, ⟨nd, rfl⟩⟩
     refine ⟨_, rfl, ?_⟩
     refine hK.out _ _ ⟨hHeld.1, hHeld.2.1, hHeld.2.2⟩ (fun hHeld => ?_)
     clear hK K
     refine nm_ (some 49) ?_
     refine pu_ 12 50 16383 ?_
     exact norm_ (by simp only [putAll, Act.put, List.setIfInBounds_toArray, List.set_cons_zero, List.set_cons_succ]) (hCont (gb322) _ ⟨hHeld, (by (with_reducible repeat (first | apply Kd.Q_alloc | apply Kd.Q_drewN | apply Kd.Q_drew)); exact HO_4.out), (bkw BK322), GW322.out, GE322.out, blw⟩)
   rintro gb322 w21 ⟨hS_, h0_, h1_, h2_, h3_, h4_⟩
   have n0_ : Aside0 (Kd.Q Kd.string 9 w21 w.heap.size (fun _ => True) (.slice (some ad316) x4_2.length co17) x4_2) := ⟨h0_⟩
   have n1_ : Aside0 (w21.heap[gb322]? = some (.cells #[.int .i64 0, .int .i64 0, .int .i64 0, .int .i64 0, .int .i64 0, .int .i64 0, .int .i64 0] 67 (0, 0))) := ⟨h1_⟩
   have n2_ : Aside0 (w.heap.size ≤ gb322) := ⟨h2_⟩
   have n3_ : Aside0 (w.heap.size ≤ gb322) := ⟨h3_⟩
   have n4_ : Aside0 (Below w.heap.size w w21) := ⟨h4_⟩
   clear HO_4
   clear HB
   clear h0_ h1_ h2_ h3_ h4_
   have HO_4 := n0_
   have BK322 := n1_
   have GW322 := n2_
   have GE322 := n3_
   have HB := n4_
   clear n0_ n1_ n2_ n3_ n4_
   have hHeld : w21.cell? ⟨ad316.block, ad316.off + 2, none⟩ = some (.string (rdOf ByteArray.empty x4_2 2)) ∧ w21.cell? ⟨ad316.block, ad316.off + 1, none⟩ = some (.string (rdOf ByteArray.empty x4_2 1)) ∧ w21.cell? ad316 = some (.string (rdOf ByteArray.empty x4_2 0)) := hS_
   refine norm_ (a' := ?_) ?_ ?_
   rotate_left
   ·simp only [putAll, Act.put, List.setIfInBounds_toArray, List.set_cons_zero, List.set_cons_succ]
    rfl
   refine one1 14 none 32767 (fun K hK => ?_)
   have hs22 : w21.cell? ⟨gb322, 0, none⟩ = some (.int .i64 0) := bk_ BK322
   have hfs22 := blk_frozen BK322.out 0
   have hs23 : w21.cell? ⟨gb322, 1, none⟩ = some (.int .i64 0) := bk_ BK322
   have hfs23 := blk_frozen BK322.out 1
   have hs24 : w21.cell? ⟨gb322, 2, none⟩ = some (.int .i64 0) := bk_ BK322
   have hfs24 := blk_frozen BK322.out 2
   have hs25 : w21.cell? ⟨gb322, 3, none⟩ = some (.int .i64 0) := bk_ BK322
   have hfs25 := blk_frozen BK322.out 3
   have hs26 : w21.cell? ⟨gb322, 4, none⟩ = some (.int .i64 0) := bk_ BK322
   have hfs26 := blk_frozen BK322.out 4
   have hs27 : w21.cell? ⟨gb322, 5, none⟩ = some (.int .i64 0) := bk_ BK322
   have hfs27 := blk_frozen BK322.out 5
   have hs28 : w21.cell? ⟨gb322, 6, none⟩ = some (.int .i64 0) := bk_ BK322
   have hfs28 := blk_frozen BK322.out 6
   refine skip_ (w1 := ?_) (by rfl) rfl ?_ ?_
   rotate_left
   ·go_simp
    rfl
   refine hK.out _ _ ⟨((cell_far (p := ⟨gb322, _, none⟩) (by first | exact Kd.own_blk (Kd.Q_ne HO_4.out BK322.out (by decide)) | (rw [add_block]; exact Kd.own_blk (Kd.Q_ne HO_4.out BK322.out (by decide))) | (show (Addr.add _ _).block ≠ _; rw [add_block]; exact Kd.own_blk (Kd.Q_ne HO_4.out BK322.out (by decide))) | (dsimp only; exact Kd.own_blk (Kd.Q_ne HO_4.out BK322.out (by decide)))) _).trans (((cell_far (p := ⟨gb322, _, none⟩) (by first | exact Kd.own_blk (Kd.Q_ne HO_4.out BK322.out (by decide)) | (rw [add_block]; exact Kd.own_blk (Kd.Q_ne HO_4.out BK322.out (by decide))) | (show (Addr.add _ _).block ≠ _; rw [add_block]; exact Kd.own_blk (Kd.Q_ne HO_4.out BK322.out (by decide))) | (dsimp only; exact Kd.own_blk (Kd.Q_ne HO_4.out BK322.out (by decide)))) _).trans (((cell_far (p := ⟨gb322, _, none⟩) (by first | exact Kd.own_blk (Kd.Q_ne HO_4.out BK322.out (by decide)) | (rw [add_block]; exact Kd.own_blk (Kd.Q_ne HO_4.out BK322.out (by decide))) | (show (Addr.add _ _).block ≠ _; rw [add_block]; exact Kd.own_blk (Kd.Q_ne HO_4.out BK322.out (by decide))) | (dsimp only; exact Kd.own_blk (Kd.Q_ne HO_4.out BK322.out (by decide)))) _).trans (((cell_far (p := ⟨gb322, _, none⟩) (by first | exact Kd.own_blk (Kd.Q_ne HO_4.out BK322.out (by decide)) | (rw [add_block]; exact Kd.own_blk (Kd.Q_ne HO_4.out BK322.out (by decide))) | (show (Addr.add _ _).block ≠ _; rw [add_block]; exact Kd.own_blk (Kd.Q_ne HO_4.out BK322.out (by decide))) | (dsimp only; exact Kd.own_blk (Kd.Q_ne HO_4.out BK322.out (by decide)))) _).trans (((cell_far (p := ⟨gb322, _, none⟩) (by first | exact Kd.own_blk (Kd.Q_ne HO_4.out BK322.out (by decide)) | (rw [add_block]; exact Kd.own_blk (Kd.Q_ne HO_4.out BK322.out (by decide))) | (show (Addr.add _ _).block ≠ _; rw [add_block]; exact Kd.own_blk (Kd.Q_ne HO_4.out BK322.out (by decide))) | (dsimp only; exact Kd.own_blk (Kd.Q_ne HO_4.out BK322.out (by decide)))) _).trans (((cell_far (p := ⟨gb322, _, none⟩) (by first | exact Kd.own_blk (Kd.Q_ne HO_4.out BK322.out (by decide)) | (rw [add_block]; exact Kd.own_blk (Kd.Q_ne HO_4.out BK322.out (by decide))) | (show (Addr.add _ _).block ≠ _; rw [add_block]; exact Kd.own_blk (Kd.Q_ne HO_4.out BK322.out (by decide))) | (dsimp only; exact Kd.own_blk (Kd.Q_ne HO_4.out BK322.out (by decide)))) _).trans (((cell_far (p := ⟨gb322, _, none⟩) (by first | exact Kd.own_blk (Kd.Q_ne HO_4.out BK322.out (by decide)) | (rw [add_block]; exact Kd.own_blk (Kd.Q_ne HO_4.out BK322.out (by decide))) | (show (Addr.add _ _).block ≠ _; rw [add_block]; exact Kd.own_blk (Kd.Q_ne HO_4.out BK322.out (by decide))) | (dsimp only; exact Kd.own_blk (Kd.Q_ne HO_4.out BK322.out (by decide)))) _).trans (hHeld.1)))))))))))))), ((cell_far (p := ⟨gb322, _, none⟩) (by first | exact Kd.own_blk (Kd.Q_ne HO_4.out BK322.out (by decide)) | (rw [add_block]; exact Kd.own_blk (Kd.Q_ne HO_4.out BK322.out (by decide))) | (show (Addr.add _ _).block ≠ _; rw [add_block]; exact Kd.own_blk (Kd.Q_ne HO_4.out BK322.out (by decide))) | (dsimp only; exact Kd.own_blk (Kd.Q_ne HO_4.out BK322.out (by decide)))) _).trans (((cell_far (p := ⟨gb322, _, none⟩) (by first | exact Kd.own_blk (Kd.Q_ne HO_4.out BK322.out (by decide)) | (rw [add_block]; exact Kd.own_blk (Kd.Q_ne HO_4.out BK322.out (by decide))) | (show (Addr.add _ _).block ≠ _; rw [add_block]; exact Kd.own_blk (Kd.Q_ne HO_4.out BK322.out (by decide))) | (dsimp only; exact Kd.own_blk (Kd.Q_ne HO_4.out BK322.out (by decide)))) _).trans (((cell_far (p := ⟨gb322, _, none⟩) (by first | exact Kd.own_blk (Kd.Q_ne HO_4.out BK322.out (by decide)) | (rw [add_block]; exact Kd.own_blk (Kd.Q_ne HO_4.out BK322.out (by decide))) | (show (Addr.add _ _).block ≠ _; rw [add_block]; exact Kd.own_blk (Kd.Q_ne HO_4.out BK322.out (by decide))) | (dsimp only; exact Kd.own_blk (Kd.Q_ne HO_4.out BK322.out (by decide)))) _).trans (((cell_far (p := ⟨gb322, _, none⟩) (by first | exact Kd.own_blk (Kd.Q_ne HO_4.out BK322.out (by decide)) | (rw [add_block]; exact Kd.own_blk (Kd.Q_ne HO_4.out BK322.out (by decide))) | (show (Addr.add _ _).block ≠ _; rw [add_block]; exact Kd.own_blk (Kd.Q_ne HO_4.out BK322.out (by decide))) | (dsimp only; exact Kd.own_blk (Kd.Q_ne HO_4.out BK322.out (by decide)))) _).trans (((cell_far (p := ⟨gb322, _, none⟩) (by first | exact Kd.own_blk (Kd.Q_ne HO_4.out BK322.out (by decide)) | (rw [add_block]; exact Kd.own_blk (Kd.Q_ne HO_4.out BK322.out (by decide))) | (show (Addr.add _ _).block ≠ _; rw [add_block]; exact Kd.own_blk (Kd.Q_ne HO_4.out BK322.out (by decide))) | (dsimp only; exact Kd.own_blk (Kd.Q_ne HO_4.out BK322.out (by decide)))) _).trans (((cell_far (p := ⟨gb322, _, none⟩) (by first | exact Kd.own_blk (Kd.Q_ne HO_4.out BK322.out (by decide)) | (rw [add_block]; exact Kd.own_blk (Kd.Q_ne HO_4.out BK322.out (by decide))) | (show (Addr.add _ _).block ≠ _; rw [add_block]; exact Kd.own_blk (Kd.Q_ne HO_4.out BK322.out (by decide))) | (dsimp only; exact Kd.own_blk (Kd.Q_ne HO_4.out BK322.out (by decide)))) _).trans (((cell_far (p := ⟨gb322, _, none⟩) (by first | exact Kd.own_blk (Kd.Q_ne HO_4.out BK322.out (by decide)) | (rw [add_block]; exact Kd.own_blk (Kd.Q_ne HO_4.out BK322.out (by decide))) | (show (Addr.add _ _).block ≠ _; rw [add_block]; exact Kd.own_blk (Kd.Q_ne HO_4.out BK322.out (by decide))) | (dsimp only; exact Kd.own_blk (Kd.Q_ne HO_4.out BK322.out (by decide)))) _).trans (hHeld.2.1)))))))))))))), ((cell_far (p := ⟨gb322, _, none⟩) (by first | exact Kd.own_blk (Kd.Q_ne HO_4.out BK322.out (by decide)) | (rw [add_block]; exact Kd.own_blk (Kd.Q_ne HO_4.out BK322.out (by decide))) | (show (Addr.add _ _).block ≠ _; rw [add_block]; exact Kd.own_blk (Kd.Q_ne HO_4.out BK322.out (by decide))) | (dsimp only; exact Kd.own_blk (Kd.Q_ne HO_4.out BK322.out (by decide)))) _).trans (((cell_far (p := ⟨gb322, _, none⟩) (by first | exact Kd.own_blk (Kd.Q_ne HO_4.out BK322.out (by decide)) | (rw [add_block]; exact Kd.own_blk (Kd.Q_ne HO_4.out BK322.out (by decide))) | (show (Addr.add _ _).block ≠ _; rw [add_block]; exact Kd.own_blk (Kd.Q_ne HO_4.out BK322.out (by decide))) | (dsimp only; exact Kd.own_blk (Kd.Q_ne HO_4.out BK322.out (by decide)))) _).trans (((cell_far (p := ⟨gb322, _, none⟩) (by first | exact Kd.own_blk (Kd.Q_ne HO_4.out BK322.out (by decide)) | (rw [add_block]; exact Kd.own_blk (Kd.Q_ne HO_4.out BK322.out (by decide))) | (show (Addr.add _ _).block ≠ _; rw [add_block]; exact Kd.own_blk (Kd.Q_ne HO_4.out BK322.out (by decide))) | (dsimp only; exact Kd.own_blk (Kd.Q_ne HO_4.out BK322.out (by decide)))) _).trans (((cell_far (p := ⟨gb322, _, none⟩) (by first | exact Kd.own_blk (Kd.Q_ne HO_4.out BK322.out (by decide)) | (rw [add_block]; exact Kd.own_blk (Kd.Q_ne HO_4.out BK322.out (by decide))) | (show (Addr.add _ _).block ≠ _; rw [add_block]; exact Kd.own_blk (Kd.Q_ne HO_4.out BK322.out (by decide))) | (dsimp only; exact Kd.own_blk (Kd.Q_ne HO_4.out BK322.out (by decide)))) _).trans (((cell_far (p := ⟨gb322, _, none⟩) (by first | exact Kd.own_blk (Kd.Q_ne HO_4.out BK322.out (by decide)) | (rw [add_block]; exact Kd.own_blk (Kd.Q_ne HO_4.out BK322.out (by decide))) | (show (Addr.add _ _).block ≠ _; rw [add_block]; exact Kd.own_blk (Kd.Q_ne HO_4.out BK322.out (by decide))) | (dsimp only; exact Kd.own_blk (Kd.Q_ne HO_4.out BK322.out (by decide)))) _).trans (((cell_far (p := ⟨gb322, _, none⟩) (by first | exact Kd.own_blk (Kd.Q_ne HO_4.out BK322.out (by decide)) | (rw [add_block]; exact Kd.own_blk (Kd.Q_ne HO_4.out BK322.out (by decide))) | (show (Addr.add _ _).block ≠ _; rw [add_block]; exact Kd.own_blk (Kd.Q_ne HO_4.out BK322.out (by decide))) | (dsimp only; exact Kd.own_blk (Kd.Q_ne HO_4.out BK322.out (by decide)))) _).trans (((cell_far (p := ⟨gb322, _, none⟩) (by first | exact Kd.own_blk (Kd.Q_ne HO_4.out BK322.out (by decide)) | (rw [add_block]; exact Kd.own_blk (Kd.Q_ne HO_4.out BK322.out (by decide))) | (show (Addr.add _ _).block ≠ _; rw [add_block]; exact Kd.own_blk (Kd.Q_ne HO_4.out BK322.out (by decide))) | (dsimp only; exact Kd.own_blk (Kd.Q_ne HO_4.out BK322.out (by decide)))) _).trans (hHeld.2.2))))))))))))))⟩ (fun hHeld => ?_)
   clear hK K
   refine done_ (done_of HT_.out (by kernel_rfl)) ?_
   have p323 : 0 ≤ (4 : Int) := (by omega)
   have q323 : 4 < (x4_2.length : Int) := od_
   obtain ⟨ad323, e323, hx323_0⟩ := Kd.at_string (Kd.Q_reads' HO_4.out).2.2 4 p323 q323
   obtain rfl : ad316 = ad323 := (by injection e323)
   (try simp only [show (4 : Int).toNat = 4 from rfl, Nat.reduceMul, Nat.reduceEqDiff, Go.Addr.add, ↓reduceIte] at hx323_0)
   have qi323 : (4 < x4_2.length) = True := eq_true (by omega)
   (try rw [show ((4 : Int)).toNat = 4 from rfl] at hx323_0)
   have hn323_0 : ad316.block ≠ gb322 := Kd.own_blk (Kd.Q_ne HO_4.out BK322.out (by decide))
   have hn323_1 : ad316.block ≠ gb322 := Kd.own_blk (Kd.Q_ne HO_4.out BK322.out (by decide))
   have hn323_2 : ad316.block ≠ gb322 := Kd.own_blk (Kd.Q_ne HO_4.out BK322.out (by decide))
   have hn323_3 : ad316.block ≠ gb322 := Kd.own_blk (Kd.Q_ne HO_4.out BK322.out (by decide))
   have hn323_4 : ad316.block ≠ gb322 := Kd.own_blk (Kd.Q_ne HO_4.out BK322.out (by decide))
   have hn323_5 : ad316.block ≠ gb322 := Kd.own_blk (Kd.Q_ne HO_4.out BK322.out (by decide))
   have hn323_6 : ad316.block ≠ gb322 := Kd.own_blk (Kd.Q_ne HO_4.out BK322.out (by decide))
   replace hx323_0 := (cell_far (p := ⟨gb322, 0, none⟩) (by first | (rw [add_block]; exact hn323_0) | (show (Addr.add _ _).block ≠ _; rw [add_block]; exact hn323_0) | exact hn323_0) (.int .i64 t317)).trans hx323_0
   replace hx323_0 := (cell_far (p := ⟨gb322, 1, none⟩) (by first | (rw [add_block]; exact hn323_1) | (show (Addr.add _ _).block ≠ _; rw [add_block]; exact hn323_1) | exact hn323_1) (.int .i64 t319)).trans hx323_0
   replace hx323_0 := (cell_far (p := ⟨gb322, 2, none⟩) (by first | (rw [add_block]; exact hn323_2) | (show (Addr.add _ _).block ≠ _; rw [add_block]; exact hn323_2) | exact hn323_2) (.int .i64 t321)).trans hx323_0
   replace hx323_0 := (cell_far (p := ⟨gb322, 3, none⟩) (by first | (rw [add_block]; exact hn323_3) | (show (Addr.add _ _).block ≠ _; rw [add_block]; exact hn323_3) | exact hn323_3) (.int .i64 0)).trans hx323_0
   replace hx323_0 := (cell_far (p := ⟨gb322, 4, none⟩) (by first | (rw [add_block]; exact hn323_4) | (show (Addr.add _ _).block ≠ _; rw [add_block]; exact hn323_4) | exact hn323_4) (.int .i64 0)).trans hx323_0
   replace hx323_0 := (cell_far (p := ⟨gb322, 5, none⟩) (by first | (rw [add_block]; exact hn323_5) | (show (Addr.add _ _).block ≠ _; rw [add_block]; exact hn323_5) | exact hn323_5) (.int .i64 0)).trans hx323_0
   replace hx323_0 := (cell_far (p := ⟨gb322, 6, none⟩) (by first | (rw [add_block]; exact hn323_6) | (show (Addr.add _ _).block ≠ _; rw [add_block]; exact hn323_6) | exact hn323_6) (.int .i64 0)).trans hx323_0
   clear hn323_0
   clear hn323_1
   clear hn323_2
   clear hn323_3
   clear hn323_4
   clear hn323_5
   clear hn323_6
   replace p323 := eq_true p323
   replace q323 := eq_true q323
   go_upto_region 13 with (first | ((with_reducible refine gc 157 rfl ?_); refine cl_ (some 55) Tryz.func157 (date_zone.calls kj2 (rdOf ByteArray.empty x4_2 4) t324 t325 _ A15.out) ?_; rintro w29 hb; replace HO_4 := Aside0.mk (Kd.Q_below (by (with_reducible repeat (first | apply Kd.Q_alloc | apply Kd.Q_drewN | apply Kd.Q_drew)); exact (Kd.Q_mono (Kd.Q_far (p := ⟨gb322, 6, none⟩) (Kd.Q_far (p := ⟨gb322, 5, none⟩) (Kd.Q_far (p := ⟨gb322, 4, none⟩) (Kd.Q_far (p := ⟨gb322, 3, none⟩) (Kd.Q_far (p := ⟨gb322, 2, none⟩) (Kd.Q_far (p := ⟨gb322, 1, none⟩) (Kd.Q_far (p := ⟨gb322, 0, none⟩) (Kd.Q_types HO_4.out BK322.out (by decide)) (fun _ hk => hk.2) (.int .i64 t317)) (fun _ hk => hk.2) (.int .i64 t319)) (fun _ hk => hk.2) (.int .i64 t321)) (fun _ hk => hk.2) (.int .i64 0)) (fun _ hk => hk.2) (.int .i64 0)) (fun _ hk => hk.2) (.int .i64 0)) (fun _ hk => hk.2) (.int .i64 0)) (fun _ h_ => h_.1))) hb); replace BK322 := Aside0.mk (blk_below (g := gb322) (o := .cells #[.int .i64 t317, .int .i64 t319, .int .i64 t321, .int .i64 0, .int .i64 0, .int .i64 0, .int .i64 0] 67 (0, 0)) (by (with_reducible repeat (first | refine blk_drewN ?_ _ | refine blk_drew ?_ | refine blk_alloc ?_ _)); refine blk_put (cs := #[.int .i64 t317, .int .i64 t319, .int .i64 t321, .int .i64 0, .int .i64 0, .int .i64 0, .int .i64 0]) ?_ 6 _ rfl; (with_reducible repeat (first | refine blk_drewN ?_ _ | refine blk_drew ?_ | refine blk_alloc ?_ _)); refine blk_put (cs := #[.int .i64 t317, .int .i64 t319, .int .i64 t321, .int .i64 0, .int .i64 0, .int .i64 0, .int .i64 0]) ?_ 5 _ rfl; (with_reducible repeat (first | refine blk_drewN ?_ _ | refine blk_drew ?_ | refine blk_alloc ?_ _)); refine blk_put (cs := #[.int .i64 t317, .int .i64 t319, .int .i64 t321, .int .i64 0, .int .i64 0, .int .i64 0, .int .i64 0]) ?_ 4 _ rfl; (with_reducible repeat (first | refine blk_drewN ?_ _ | refine blk_drew ?_ | refine blk_alloc ?_ _)); refine blk_put (cs := #[.int .i64 t317, .int .i64 t319, .int .i64 t321, .int .i64 0, .int .i64 0, .int .i64 0, .int .i64 0]) ?_ 3 _ rfl; (with_reducible repeat (first | refine blk_drewN ?_ _ | refine blk_drew ?_ | refine blk_alloc ?_ _)); refine blk_put (cs := #[.int .i64 t317, .int .i64 t319, .int .i64 0, .int .i64 0, .int .i64 0, .int .i64 0, .int .i64 0]) ?_ 2 _ rfl; (with_reducible repeat (first | refine blk_drewN ?_ _ | refine blk_drew ?_ | refine blk_alloc ?_ _)); refine blk_put (cs := #[.int .i64 t317, .int .i64 0, .int .i64 0, .int .i64 0, .int .i64 0, .int .i64 0, .int .i64 0]) ?_ 1 _ rfl; (with_reducible repeat (first | refine blk_drewN ?_ _ | refine blk_drew ?_ | refine blk_alloc ?_ _)); refine blk_put (cs := #[.int .i64 0, .int .i64 0, .int .i64 0, .int .i64 0, .int .i64 0, .int .i64 0, .int .i64 0]) ?_ 0 _ rfl; (with_reducible repeat (first | refine blk_drewN ?_ _ | refine blk_drew ?_ | refine blk_alloc ?_ _)); exact BK322.out) hb); replace HB := Aside0.mk (below_step blw hb); (try clear hb)))
   (try simp only [Act.put, List.setIfInBounds_toArray, List.set_cons_zero, List.set_cons_succ])
   go_cut [81] (fun v81 wc => ∃ (kq : Nat) (x81_15 : Bool) (x323000_15 : Int) (x323001_15 : Int) (x323002_15 : Int) (x323003_15 : Int) (x323004_15 : Int) (x323005_15 : Int) (x323006_15 : Int), v81 = .bool x81_15 ∧ Aside0 (date_Read.j1 kq x5_2 t324 x81_15 x323000_15 x323001_15 x323002_15 x323003_15 x323004_15 x323005_15 x323006_15 = some (r1, r2)) ∧ Aside0 (kq ≤ kj2) ∧ Aside0 (wc.heap[gb322]? = some (.cells #[.int .i64 x323000_15, .int .i64 x323001_15, .int .i64 x323002_15, .int .i64 x323003_15, .int .i64 x323004_15, .int .i64 x323005_15, .int .i64 x323006_15] 67 (0, 0))) ∧ Aside0 (Below w.heap.size w wc))
   case first =>
    have H := HC16.out
    clear HC16
    obtain ⟨c30, H⟩ := iteS H
    have c30b0 := decide_eq_true c30
    have c30b1 : decide (3 < x4_2.length) = true := decide_eq_true (by omega)
    clear c30
    (first | rw [c30b0] | (simp only [i64_w, i32_w]; rw [c30b0]) | skip)
    replace H := Option.bind_eq_some_iff.mp H
    obtain ⟨⟨t327, t328, t329, t330, t331, t332, t333, t334⟩, A310, H⟩ := H
    try dsimp only at H
    have A31 := Aside0.mk A310
    clear A310
    obtain ⟨rfl, H⟩ := iteS H
    obtain ⟨rfl, H⟩ := iteS H
    obtain ⟨c34, H⟩ := iteN H
    have c34b0 := decide_eq_false c34
    clear c34
    obtain ⟨c35, H⟩ := iteN H
    have c35b0 := decide_eq_false c35
    clear c35
    have H' := Aside0.mk H
    clear H
    have p326 : 0 ≤ (3 : Int) := (by omega)
    have q326 : 3 < (x4_2.length : Int) := od_
    obtain ⟨ad326, e326, hx326_0⟩ := Kd.at_string (Kd.Q_reads' HO_4.out).2.2 3 p326 q326
    obtain rfl : ad316 = ad326 := (by injection e326)
    (try simp only [show (3 : Int).toNat = 3 from rfl, Nat.reduceMul, Nat.reduceEqDiff, Go.Addr.add, ↓reduceIte] at hx326_0)
    have qi326 : (3 < x4_2.length) = True := eq_true (by omega)
    (try rw [show ((3 : Int)).toNat = 3 from rfl] at hx326_0)
    replace p326 := eq_true p326
    replace q326 := eq_true q326
    have HI322 := Aside0.mk (show IsS67 w w29 gb322 t317 t319 t321 0 0 0 0 from ⟨BK322.out, GE322.out⟩)
    go_wp2_with (first | ((with_reducible refine gc 158 rfl ?_); refine gl_ (some 61) Tryz.func158 #[.pointer (some ⟨gb322, 0, none⟩), .string (rdOf ByteArray.empty x4_2 3)] ?_; (with_reducible refine (date_Time_hours.calls kj2 gb322 t317 t319 t321 0 0 0 0 (rdOf ByteArray.empty x4_2 3) true t328 t329 t330 t331 t332 t333 t334 w _ ?side1 ?side2 ?side3 A31.out).mono ?_); (case side1 => exact HG.out); (case side2 => repeat (first | (with_reducible first | exact HI322.out | apply IsS67.alloc | apply IsS67.drewN | apply IsS67.drew | apply IsS67.set_0 | apply IsS67.set_1 | apply IsS67.set_2 | apply IsS67.set_3 | apply IsS67.set_4 | apply IsS67.set_5 | apply IsS67.set_6) | exact HI322.out)); (case side3 => repeat (first | (with_reducible first | exact HB.out | apply below_alloc | apply pw_below_drewN | apply below_drew1 | refine below_set ?_ (IsS67.ge HI322.out)) | exact HB.out)); rintro e w36 ⟨rfl, hi, hb, hk⟩; refine ⟨_, rfl, ?_⟩; replace HO_4 := Aside0.mk (Kd.Q_mono (Kd.Q_keep (IsS67.apartQ (show IsS67 w _ gb322 t317 t319 t321 0 0 0 0 from by repeat (first | (with_reducible first | exact HI322.out | apply IsS67.alloc | apply IsS67.drewN | apply IsS67.drew | apply IsS67.set_0 | apply IsS67.set_1 | apply IsS67.set_2 | apply IsS67.set_3 | apply IsS67.set_4 | apply IsS67.set_5 | apply IsS67.set_6) | exact HI322.out)) (by (with_reducible repeat (first | apply Kd.Q_alloc | apply Kd.Q_drewN | apply Kd.Q_drew)); exact HO_4.out) (by decide)) hk (fun _ h => h.2)) (fun _ h => h.1)); replace HB := Aside0.mk (hb); replace HI322 := Aside0.mk (hi); have BK322 := Aside0.mk (show w36.heap[gb322]? = some (.cells #[.int .i64 t328, .int .i64 t329, .int .i64 t330, .int .i64 t331, .int .i64 t332, .int .i64 t333, .int .i64 t334] 67 (0, 0)) from (HI322.out).1); clear HI322; (try clear hb); (try clear hk); (try clear hi); have hcz37_0 : w36.cell? ⟨gb322, 0, none⟩ = some (.int .i64 t328) := bk_ BK322; have hcz37_1 : w36.cell? ⟨gb322, 1, none⟩ = some (.int .i64 t329) := bk_ BK322; have hcz37_2 : w36.cell? ⟨gb322, 2, none⟩ = some (.int .i64 t330) := bk_ BK322; have hcz37_3 : w36.cell? ⟨gb322, 3, none⟩ = some (.int .i64 t331) := bk_ BK322; have hcz37_4 : w36.cell? ⟨gb322, 4, none⟩ = some (.int .i64 t332) := bk_ BK322; have hcz37_5 : w36.cell? ⟨gb322, 5, none⟩ = some (.int .i64 t333) := bk_ BK322; have hcz37_6 : w36.cell? ⟨gb322, 6, none⟩ = some (.int .i64 t334) := bk_ BK322; have hfz37_0 := blk_frozen BK322.out 0; have hfz37_1 := blk_frozen BK322.out 1; have hfz37_2 := blk_frozen BK322.out 2; have hfz37_3 := blk_frozen BK322.out 3; have hfz37_4 := blk_frozen BK322.out 4; have hfz37_5 := blk_frozen BK322.out 5; have hfz37_6 := blk_frozen BK322.out 6))
    go_meet
    case rel => exact ⟨_, (decide (t330 < 0)), (t328), (t329), (t330), (t331), (t332), (t333), (t334), eqs, H', ⟨by have := HJ2.out; first | omega | exact Nat.le_refl _⟩, ⟨bkw BK322⟩, ⟨blw⟩⟩
   case rest =>
    clear HC16
    try clear c1
    try clear p2
    try clear c3
    try clear p3
    try clear q3
    try clear hx3
    try clear qi3
    try clear c10
    try clear c10b0
    try clear c10b1
    try clear c12
    try clear c12b0
    try clear c12b1
    try clear c14
    try clear c14b0
    try clear c14b1
    try clear c15
    try clear c30
    try clear c30b0
    try clear c30b1
    try clear p31
    try clear q31
    try clear hx31
    try clear qi31
    try clear c32
    try clear p32
    try clear q32
    try clear hx32
    try clear qi32
    try clear c33
    try clear c34
    try clear c34b0
    try clear c35
    try clear c35b0
    try clear hcz37_0 hcz37_1 hcz37_2 hcz37_3 hcz37_4 hcz37_5 hcz37_6
    try clear hfz37_0 hfz37_1 hfz37_2 hfz37_3 hfz37_4 hfz37_5 hfz37_6
    try clear hx316_0
    try clear hx318_0
    try clear hx320_0
    try clear hx323_0
    try clear hx326_0
    try clear p316
    try clear p318
    try clear p320
    try clear p323
    try clear p326
    try clear q316
    try clear q318
    try clear q320
    try clear q323
    try clear q326
    obtain ⟨kq, x81_15, x323000_15, x323001_15, x323002_15, x323003_15, x323004_15, x323005_15, x323006_15, rfl, HA, HJ15, BK322, HB⟩ := hcut
    cases kq with
    | zero => exact absurd HA.out (by simp [date_Read.j1])
    | succ kj15 =>
     have H := HA.out
     clear HA
     simp only [date_Read.j1] at H
     replace H := iteF H; obtain ⟨rfl, H⟩ := H
     replace H := Option.bind_eq_some_iff.mp H
     obtain ⟨⟨t335, t336⟩, A390, H⟩ := H
     try dsimp only at H
     have A39 := Aside0.mk A390
     clear A390
     obtain ⟨c40, H⟩ := iteS H
     have c40b0 := beq_iff_eq.mpr c40
     have c40b1 := bne_eq_false_iff_eq.mpr c40
     clear c40
     have HC41 := Aside0.mk H
     clear H
     have hcz42_0 : wc.cell? ⟨gb322, 0, none⟩ = some (.int .i64 x323000_15) := bk_ BK322
     have hcz42_1 : wc.cell? ⟨gb322, 1, none⟩ = some (.int .i64 x323001_15) := bk_ BK322
     have hcz42_2 : wc.cell? ⟨gb322, 2, none⟩ = some (.int .i64 x323002_15) := bk_ BK322
     have hcz42_3 : wc.cell? ⟨gb322, 3, none⟩ = some (.int .i64 x323003_15) := bk_ BK322
     have hcz42_4 : wc.cell? ⟨gb322, 4, none⟩ = some (.int .i64 x323004_15) := bk_ BK322
     have hcz42_5 : wc.cell? ⟨gb322, 5, none⟩ = some (.int .i64 x323005_15) := bk_ BK322
     have hcz42_6 : wc.cell? ⟨gb322, 6, none⟩ = some (.int .i64 x323006_15) := bk_ BK322
     have hfz42_0 := blk_frozen BK322.out 0
     have hfz42_1 := blk_frozen BK322.out 1
     have hfz42_2 := blk_frozen BK322.out 2
     have hfz42_3 := blk_frozen BK322.out 3
     have hfz42_4 := blk_frozen BK322.out 4
     have hfz42_5 := blk_frozen BK322.out 5
     have hfz42_6 := blk_frozen BK322.out 6
     go_upto_region 18 with (first | ((with_reducible refine gc 159 rfl ?_); refine cl_ (some 84) Tryz.func159 (date_Number.calls kj15 x323000_15 x323001_15 x323002_15 x323003_15 x323004_15 x323005_15 x323006_15 t335 t336 _ (Amb.at HG.out blw) A39.out) ?_; rintro w43 hb; replace BK322 := Aside0.mk (blk_below (g := gb322) (o := .cells #[.int .i64 x323000_15, .int .i64 x323001_15, .int .i64 x323002_15, .int .i64 x323003_15, .int .i64 x323004_15, .int .i64 x323005_15, .int .i64 x323006_15] 67 (0, 0)) (bkw BK322) hb); replace HB := Aside0.mk (below_step blw hb); (try clear hb)))
     (try simp only [Act.put, List.setIfInBounds_toArray, List.set_cons_zero, List.set_cons_succ])
     go_cut [99] (fun v99 wc => ∃ (kq : Nat) (x99_40 : Bool), v99 = .bool x99_40 ∧ Aside0 (date_Read.j2 kq t324 t335 x99_40 = some (r1, r2)) ∧ Aside0 (kq ≤ kj15) ∧ Aside0 (wc.heap[gb322]? = some (.cells #[.int .i64 x323000_15, .int .i64 x323001_15, .int .i64 x323002_15, .int .i64 x323003_15, .int .i64 x323004_15, .int .i64 x323005_15, .int .i64 x323006_15] 67 (0, 0))) ∧ Aside0 (Below w.heap.size w wc))
     case first =>
      have H := HC41.out
      clear HC41
      obtain ⟨c44, H⟩ := iteN H
      have c44b0 : decide (0 ≤ x5_2) = false := decide_eq_false c44
      clear c44
      (first | rw [c44b0] | (simp only [i64_w, i32_w]; rw [c44b0]) | skip)
      have H' := Aside0.mk H
      clear H
      go_wp2
      go_meet
      case rel => exact ⟨_, (false), eqs, H', ⟨by have := HJ2.out; have := HJ15.out; first | omega | exact Nat.le_refl _⟩, ⟨bkw BK322⟩, ⟨blw⟩⟩
     case rest =>
      clear HC41
      try clear c1
      try clear p2
      try clear c3
      try clear p3
      try clear q3
      try clear hx3
      try clear qi3
      try clear c4
      try clear c10
      try clear c10b0
      try clear c10b1
      try clear c12
      try clear c12b0
      try clear c12b1
      try clear c14
      try clear c14b0
      try clear c14b1
      try clear c15
      try clear c30
      try clear c30b0
      try clear c30b1
      try clear p31
      try clear q31
      try clear hx31
      try clear qi31
      try clear c32
      try clear p32
      try clear q32
      try clear hx32
      try clear qi32
      try clear c33
      try clear c34
      try clear c34b0
      try clear c35
      try clear c35b0
      try clear c38
      try clear c40
      try clear c40b0
      try clear c40b1
      try clear c44
      try clear c44b0
      try clear hcz37_0 hcz37_1 hcz37_2 hcz37_3 hcz37_4 hcz37_5 hcz37_6
      try clear hcz42_0 hcz42_1 hcz42_2 hcz42_3 hcz42_4 hcz42_5 hcz42_6
      try clear hfz37_0 hfz37_1 hfz37_2 hfz37_3 hfz37_4 hfz37_5 hfz37_6
      try clear hfz42_0 hfz42_1 hfz42_2 hfz42_3 hfz42_4 hfz42_5 hfz42_6
      try clear hx316_0
      try clear hx318_0
      try clear hx320_0
      try clear hx323_0
      try clear hx326_0
      try clear p2
      try clear p3
      try clear p31
      try clear p316
      try clear p318
      try clear p32
      try clear p320
      try clear p323
      try clear p326
      try clear q3
      try clear q31
      try clear q316
      try clear q318
      try clear q32
      try clear q320
      try clear q323
      try clear q326
      obtain ⟨kq, x99_40, rfl, HA, HJ40, BK322, HB⟩ := hcut
      cases kq with
      | zero => exact absurd HA.out (by simp [date_Read.j2])
      | succ kj40 =>
       have H := HA.out
       clear HA
       simp only [date_Read.j2] at H
       replace H := iteF H; obtain ⟨rfl, H⟩ := H
       replace H := Option.bind_eq_some_iff.mp H
       obtain ⟨t337, A460, H⟩ := H
       try dsimp only at H
       have A46 := Aside0.mk A460
       clear A460
       obtain ⟨rfl, H⟩ := iteS H
       simp only [Option.some.injEq, Prod.mk.injEq] at H
       obtain ⟨rfl, rfl⟩ := H
       go_wp2_with (first | ((with_reducible refine gc 63 rfl ?_); refine cl_ (some 103) Tryz.func63 (date_moment.calls (wrap64 (t335 - t324)) true _ A46.out) ?_; rintro w' ⟨nd, rfl⟩))
       go_ret2
       exact ⟨by first | rfl | (simp [errW_none, errW_some] <;> rfl) | (simp [*, errW_none, errW_some] <;> rfl), blw⟩

end Go.Proofs.YtcpmoolpbeeedaaGreatDoor.Q
