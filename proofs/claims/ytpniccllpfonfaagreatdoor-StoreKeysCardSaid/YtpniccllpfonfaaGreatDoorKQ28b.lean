-- Texts of this session put together by a program of it (wip/pack.py).
import Derived.Test.YtpniccllpfonfaaGreatDoorKQ0
import Derived.Test.YtpniccllpfonfaaGreatDoorKQ1
namespace Go.Proofs.YtpniccllpfonfaaGreatDoor.Q
open Go.RowKit Go.Proofs.YtpniccllpfonfaaGreatDoorW.PrintWords Go.Proofs.YtpniccllpfonfaaGreatDoorW.PrintLast Go.Proofs.YtpniccllpfonfaaGreatDoorW.PrintMore Go.Proofs.YtpniccllpfonfaaGreatDoorW.PrintSq
attribute [local go_sem] max2_int min2_int max_two min_two max_three min_three max_four min_four   -- for this text's walks alone
set_option linter.unusedVariables false
set_option linter.unusedSimpArgs false
attribute [local go_sem high] eqA96
/-! ### bulletinref05_Bytes: function 75 -/
def bulletinref05_Bytes.l0 : Nat → Int → ByteArray → Int → Option (ByteArray)
  | 0, _, _, _ => none
  | k + 1, x0, x3, x4 => if x4 < 8 then ((some (([(Int.tmod x0 256) % 256] : List Int) : List Int)).bind fun y636 => (if (strOfNums y636).size + x3.size ≤ 9223372036854775807 then (bulletinref05_Bytes.l0 k (IntKind.u64.wrap (Int.tdiv x0 256)) ((strOfNums y636) ++ x3) (wrap64 (x4 + 1))) else (none))) else (some x3)
def bulletinref05_Bytes.f (k : Nat) (a0 : Int) : Option (ByteArray) := bulletinref05_Bytes.l0 k a0 (⟨#[]⟩ : ByteArray) 0
theorem bulletinref05_Bytes.mono_l : ∀ k, (∀ y0 y1 y2, LeO (bulletinref05_Bytes.l0 k y0 y1 y2) (bulletinref05_Bytes.l0 (k + 1) y0 y1 y2))
  | 0 => fun _ _ _ r h => by simp [bulletinref05_Bytes.l0] at h
  | k + 1 => by
    have ih0 := bulletinref05_Bytes.mono_l k
    · intro y0 y1 y2
      unfold bulletinref05_Bytes.l0
      repeat' first | (with_reducible first | exact ih0 _ _ _ | exact LeO.refl _ | exact LeO.none _ | refine LeO.ite ?_ ?_ | refine LeO.bind ?_ (fun _ => ?_)) | exact ih0 _ _ _ | exact LeO.none _ | refine LeO.ite ?_ ?_ | refine LeO.bind ?_ (fun _ => ?_)
theorem bulletinref05_Bytes.mono : ∀ a0 k, LeO (bulletinref05_Bytes.f k a0) (bulletinref05_Bytes.f (k + 1) a0) := by
  intro a0 k
  have ih0 := bulletinref05_Bytes.mono_l k
  unfold bulletinref05_Bytes.f
  repeat' first | (with_reducible first | exact ih0 _ _ _ | exact LeO.refl _ | exact LeO.none _ | refine LeO.ite ?_ ?_ | refine LeO.bind ?_ (fun _ => ?_)) | exact ih0 _ _ _ | exact LeO.none _ | refine LeO.ite ?_ ?_ | refine LeO.bind ?_ (fun _ => ?_)
set_option maxHeartbeats 8000000 in
set_option maxRecDepth 100000 in
theorem bulletinref05_Bytes.calls (k : Nat) (a0 : Int) (r : ByteArray) (w : World) (h : bulletinref05_Bytes.f k a0 = some r) :
    Calls Tryz.prog 75 #[.int .u64 a0] w fun e w' => e = .returned (.string r) ∧ Below w.heap.size w w' := by
 have HB := Aside0.mk (Below.refl w.heap.size w)
 unfold bulletinref05_Bytes.f at h
 have H := h
 clear h
 have H' := Aside0.mk H
 clear H
 go_enter Tryz.func75, Tryz.ntmps75
 go_wp2
 go_loopg [0, 3, 4] k (fun kq v0 v3 v4 w' => ∃ (x0_1 : Int) (x3_1 : ByteArray) (x4_1 : Int), v0 = .int .u64 x0_1 ∧ v3 = .string x3_1 ∧ v4 = .int .i64 x4_1 ∧ Aside0 (bulletinref05_Bytes.l0 kq x0_1 x3_1 x4_1 = some r) ∧ Aside0 (kq ≤ k) ∧ Aside0 (Below w.heap.size w w'))
 case atStart => exact ⟨(a0), ((⟨#[]⟩ : ByteArray)), (0), eqs, eqs, eqs, H', ⟨Nat.le_refl _⟩, ⟨blw⟩⟩
 case round =>
  clear H'
  obtain ⟨x0_1, x3_1, x4_1, rfl, rfl, rfl, HA, HK1, HB⟩ := hrel
  cases gk with
  | zero => exact absurd HA.out (by simp [bulletinref05_Bytes.l0])
  | succ k1 =>
   have H := HA.out
   clear HA
   simp only [bulletinref05_Bytes.l0] at H
   by_cases c2 : x4_1 < 8
   ·rw [if_pos c2] at H
    have c2b0 := decide_eq_true c2
    clear c2
    obtain ⟨y636, hy636⟩ : ∃ y_ : List Int, y_ = (([(Int.tmod x0_1 256) % 256] : List Int)) := ⟨_, rfl⟩
    replace H : (if (strOfNums y636).size + x3_1.size ≤ 9223372036854775807 then (bulletinref05_Bytes.l0 k1 (IntKind.u64.wrap (Int.tdiv x0_1 256)) ((strOfNums y636) ++ x3_1) (wrap64 (x4_1 + 1))) else (none)) = some r := by first | (rw [hy636]; with_reducible exact H) | (have H2_ := (Option.bind_some _ _).symm.trans H; rw [hy636]; with_reducible exact H2_) | (have H2_ := (Option.bind_some _ _).symm.trans H; with_reducible exact H2_) | with_reducible exact H | (rw [hy636]; exact H) | exact H
    have Ny636 := Aside0.mk hy636
    clear hy636
    obtain ⟨c3, H⟩ := iteS H
    have c3b0 := eq_true c3
    have c3b1 := decide_eq_true c3
    try have c3b2 := eq_false (Nat.not_lt.2 c3)
    have H' := Aside0.mk H
    clear H
    go_wp2_with (first | ((with_reducible refine gate_dst (N := 12) rfl ?_); refine Kd.R_lit (Kd.int .u8) _ 5 ?hg (N := 12) ?hd (xs := ([(Int.tmod x0_1 256) % 256] : List Int)) (inner := [.int .u8 ((Int.tmod x0_1 256) % 256)]) (ok := fun _ => True) (okp := fun _ => True) ?hr ?hp (fun _ hk => hk) trivial (Below.refl _ _) (Nat.le_refl _) (by simp) ?_; (case hd => rfl); (case hg => rfl); (case hr => first | (go_simp; done) | (go_simp; rfl)); (case hp => exact (Reps.one (show Kd.M (Kd.int .u8) _ _ _ ((Int.tmod x0_1 256) % 256) [.int .u8 ((Int.tmod x0_1 256) % 256)] from rfl) (Reps.none _ _))); intro v637 w4 ho5 hb hg_ hnew_; clear hg_ hnew_; (first | rw [← Ny636.out] at ho5 | (simp only [Int.reduceToNat] at ho5; rw [← Ny636.out] at ho5)); have HO638 := Aside0.mk (Kd.R_lower ho5 (below_size blw)); replace HB := Aside0.mk (below_step blw hb); clear hb ho5; have hcv6 := own_string (P := Tryz.prog) Tryz.underlying169 Tryz.underlying5 Tryz.underlying9 (Kd.own_of_R HO638.out)))
    go_roundg k1
    case measure => have := HK1.out; omega
    case rel => exact ⟨(IntKind.u64.wrap (Int.tdiv x0_1 256)), ((strOfNums y636) ++ x3_1), (wrap64 (x4_1 + 1)), eqs, eqs, eqs, H', ⟨by have := HK1.out; omega⟩, ⟨blw⟩⟩
   ·rw [if_neg c2] at H
    have c2b0 := decide_eq_false c2
    clear c2
    obtain rfl := Option.some.inj H
    go_wp2
    go_ret
    exact ⟨by first | rfl | (simp [errW_none, errW_some] <;> rfl) | (simp [*, errW_none, errW_some] <;> rfl), blw⟩
end Go.Proofs.YtpniccllpfonfaaGreatDoor.Q
