/- The spool's law: works. -/
import Derived.Test.YtbifmgenljjleaaSpF
import Derived.Outline
namespace Go.Proofs.Ytbifmgenljjleaa.Sp
open Go Go.RowKit Go.Maps Go.WideMaps Go.Proofs.YtbifmgenljjleaaW.PrintWords
def ea : E := ⟨⟨#[97]⟩, ⟨#[]⟩, ⟨#[]⟩, ⟨#[49]⟩⟩
def eb : E := ⟨⟨#[97]⟩, ⟨#[]⟩, ⟨#[]⟩, ⟨#[50]⟩⟩
theorem ka : (ea.key.toList == ([] : List UInt8)) = false := by rw [Lib.toList_data]; rfl
theorem kb : (eb.key.toList == ([] : List UInt8)) = false := by rw [Lib.toList_data]; rfl
theorem lies_a : lies [] ea = false := by decide +kernel
theorem lies_b : lies [ea] eb = true := by decide +kernel
theorem list_a : putList [] false ea = [ea] := by simp only [putList, ka, lies_a]; rfl
theorem code_a : putCode [] false ea = 0 := by simp only [putCode, ka]; rfl
theorem list_b : putList [ea] false eb = [ea] := by simp only [putList, kb, lies_b]; rfl
theorem code_b : putCode [ea] false eb = 0 := by simp only [putCode, kb]; rfl
theorem at_a : (mapD [ea]).atKey (.string ea.key.data.toList) (.lit (.int .i64 0)) = .lit (.int .i64 ((0 : Nat) : Int)) := by kernel_rfl
theorem sz_a : ea.key.size ≤ maxLen := by unfold maxLen; exact Nat.le_of_ble_eq_true rfl
theorem sz_b : eb.key.size ≤ maxLen := by unfold maxLen; exact Nat.le_of_ble_eq_true rfl

abbrev lit (s : ByteArray) : Value := .string s
theorem put_a {B : Nat} {w w0 : World} {g bm : Nat} {v : Value} (h : St B w g bm v [] false) (hB0 : Below B w0 w) (hB : B ≤ w.heap.size) :
    Calls Try.prog 12 #[.pointer (some ⟨g, 0, none⟩), .agg #[.string ⟨#[97]⟩, .string ⟨#[]⟩, .string ⟨#[]⟩, .string ⟨#[49]⟩]] w fun x w' => ∃ v', x = .returned (.int .i64 0) ∧ St B w' g bm v' [ea] false ∧ Below B w0 w' := by
  refine (put_any h hB0 hB ea sz_a (by simp)).mono fun x w' hx => ?_
  obtain ⟨v', h1, h2, h3, -⟩ := hx
  rw [code_a] at h1; rw [list_a] at h2
  exact ⟨v', h1, h2, h3⟩
theorem put_b {B : Nat} {w w0 : World} {g bm : Nat} {v : Value} (h : St B w g bm v [ea] false) (hB0 : Below B w0 w) (hB : B ≤ w.heap.size) :
    Calls Try.prog 12 #[.pointer (some ⟨g, 0, none⟩), .agg #[.string ⟨#[97]⟩, .string ⟨#[]⟩, .string ⟨#[]⟩, .string ⟨#[50]⟩]] w fun x w' => ∃ v', x = .returned (.int .i64 0) ∧ St B w' g bm v' [ea] false ∧ Below B w0 w' := by
  refine (put_any h hB0 hB eb sz_b (by simp)).mono fun x w' hx => ?_
  obtain ⟨v', h1, h2, h3, -⟩ := hx
  rw [code_b] at h1; rw [list_b] at h2
  exact ⟨v', h1, h2, h3⟩
theorem find_a {B : Nat} {w : World} {g bm : Nat} {v : Value} (h : St B w g bm v [ea] false) :
    Calls Try.prog 9 #[.pointer (some ⟨g, 0, none⟩), .string ⟨#[97]⟩] w fun x w' => x = .returned (.tuple #[.agg #[.string ⟨#[97]⟩, .string ⟨#[]⟩, .string ⟨#[]⟩, .string ⟨#[49]⟩], .bool true]) ∧ Below w.heap.size w w' :=
  find_some h ea.key sz_a lies_b 0 (by simp) at_a
set_option maxRecDepth 100000 in
set_option maxHeartbeats 4000000 in
theorem works_any {w : World} : Calls Try.prog 5 #[] w fun x w' => x = .returned (.bool true) ∧ Below w.heap.size w w' := by
  go_enter Try.func5, Try.ntmps5
  go_wp2_with (fail)
  (go_at_call 6; refine (new_any w.heap.size w w (Below.refl _ _) (Nat.le_refl _)).mono ?_; rintro e w1 ⟨g, bm, rfl, hS1, hB1, -, -, -⟩)
  go_wp2_with (fail)
  (go_at_call 12; (with_reducible refine (put_a hS1 hB1 hB1.size).mono ?_); rintro e w2 ⟨v2, rfl, hS2, hB2⟩)
  go_wp2_with (fail)
  (go_at_call 12; (with_reducible refine (put_b hS2 hB2 hB2.size).mono ?_); rintro e w3 ⟨v3, rfl, hS3, hB3⟩)
  go_wp2_with (fail)
  (go_at_call 9; (with_reducible refine (find_a hS3).mono ?_); rintro e w4 ⟨rfl, hB4⟩; have hS4 := hS3.ofBelow hB4)
  have hB5 := hB3.trans (hB4.mono hB3.size)
  go_wp2_with (fail)
  (go_at_call 10; refine (len_any (hS4.ofBelow ((Below.refl _ _).alloc (Nat.le_refl _) _))).mono ?_; rintro e w5 ⟨rfl, rfl⟩)
  go_wp2_with (fail)
  go_ret
  exact ⟨rfl, hB5.trans (((Below.refl _ _).alloc (Nat.le_refl _) _).mono hB5.size)⟩
end Go.Proofs.Ytbifmgenljjleaa.Sp
