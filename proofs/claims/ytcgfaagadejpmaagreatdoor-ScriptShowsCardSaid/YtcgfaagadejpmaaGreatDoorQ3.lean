-- Written by a program of this session (wip/myprint) out of the translation, for YtcgfaagadejpmaaGreatDoor.
import Derived.Test.YtcgfaagadejpmaaGreatDoorQ0
namespace Go.Proofs.YtcgfaagadejpmaaGreatDoor.Q
open Go.RowKit Go.Proofs.YtcgfaagadejpmaaGreatDoorW.PrintWords Go.Proofs.YtcgfaagadejpmaaGreatDoorW.PrintLast Go.Proofs.YtcgfaagadejpmaaGreatDoorW.PrintMore Go.Proofs.YtcgfaagadejpmaaGreatDoorW.PrintSq
attribute [local go_sem] max2_int min2_int max_two min_two max_three min_three max_four min_four   -- for this text's walks alone
set_option linter.unusedVariables false
set_option linter.unusedSimpArgs false

/-! ### script_Escape: function 10 -/
section
open Go.Proofs.YtcgfaagadejpmaaGreatDoorW.PrintSq
/-- A digit of sixteen. -/
def script_Escape.hx (n : Nat) : UInt8 := ([48, 49, 50, 51, 52, 53, 54, 55, 56, 57, 97, 98, 99, 100, 101, 102] : List UInt8).getD n 0
/-- A byte as it can be read. -/
def script_Escape.esc (c : UInt8) : List UInt8 :=
  if c.toNat = 13 then [92, 114] else if c.toNat = 10 then [92, 110] else if c.toNat = 92 then [92, 92]
  else if c.toNat < 32 ∨ 126 < c.toNat then [92, 120, script_Escape.hx (c.toNat / 16), script_Escape.hx (c.toNat % 16)] else [c]
def script_Escape.g (s : ByteArray) : ByteArray := ⟨(s.data.toList.flatMap script_Escape.esc).toArray⟩
def script_Escape.f (a0 : ByteArray) : Option (ByteArray) := if a0.size ≤ 17592186044416 then (some (script_Escape.g a0)) else none
theorem script_Escape.take_snoc (s : ByteArray) (k : Nat) (h : k < s.size) : (s.data.toList.take (k + 1)).flatMap script_Escape.esc = (s.data.toList.take k).flatMap script_Escape.esc ++ script_Escape.esc (s[k]'h) := by
  rw [List.take_succ_eq_append_getElem (by simpa using h), List.flatMap_append]
  simp
  rfl
theorem script_Escape.esc_le (c : UInt8) : (script_Escape.esc c).length ≤ 4 := by
  unfold script_Escape.esc
  repeat' split
  all_goals simp
theorem script_Escape.len_le (s : ByteArray) (k : Nat) (h : k ≤ s.size) : ((s.data.toList.take k).flatMap script_Escape.esc).length ≤ 4 * k := by
  induction k with
  | zero => simp
  | succ k ih =>
    rw [script_Escape.take_snoc s k h, List.length_append]
    have := ih (by omega)
    have := script_Escape.esc_le (s[k]'h)
    omega
theorem script_Escape.cells (l m : List UInt8) : Lib.byteCells (l ++ m) = Lib.byteCells l ++ Lib.byteCells m := Lib.byteCells_append l m
def script_Escape.str4 (q m : Nat) : ByteArray := (⟨#[92, 120]⟩ : ByteArray) ++ (⟨#[48, 49, 50, 51, 52, 53, 54, 55, 56, 57, 97, 98, 99, 100, 101, 102]⟩ : ByteArray).extract q (q + 1) ++ (⟨#[48, 49, 50, 51, 52, 53, 54, 55, 56, 57, 97, 98, 99, 100, 101, 102]⟩ : ByteArray).extract m (m + 1)
theorem script_Escape.list4 : ∀ q < 16, ∀ m < 16, (script_Escape.str4 q m).data.toList = [92, 120, script_Escape.hx q, script_Escape.hx m] := by decide +kernel
theorem script_Escape.size4 (q m : Nat) (hq : q < 16) (hm : m < 16) : ((⟨#[92, 120]⟩ : ByteArray) ++ (⟨#[48, 49, 50, 51, 52, 53, 54, 55, 56, 57, 97, 98, 99, 100, 101, 102]⟩ : ByteArray).extract q (q + 1) ++ (⟨#[48, 49, 50, 51, 52, 53, 54, 55, 56, 57, 97, 98, 99, 100, 101, 102]⟩ : ByteArray).extract m (m + 1)).size = 4 := by
  show (script_Escape.str4 q m).data.size = 4
  rw [← Array.length_toList, script_Escape.list4 q hq m hm]
  rfl
theorem script_Escape.cells4 (q m : Nat) (hq : q < 16) (hm : m < 16) : Lib.strCells ((⟨#[92, 120]⟩ : ByteArray) ++ (⟨#[48, 49, 50, 51, 52, 53, 54, 55, 56, 57, 97, 98, 99, 100, 101, 102]⟩ : ByteArray).extract q (q + 1) ++ (⟨#[48, 49, 50, 51, 52, 53, 54, 55, 56, 57, 97, 98, 99, 100, 101, 102]⟩ : ByteArray).extract m (m + 1)) = Lib.byteCells [92, 120, script_Escape.hx q, script_Escape.hx m] := by
  rw [← script_Escape.list4 q hq m hm]
  rfl
theorem script_Escape.and15 : ∀ n < 256, Go.bits .and .u8 ((n : Nat) : Int) 15 = ((n % 16 : Nat) : Int) := by decide +kernel
theorem script_Escape.wrap1 : ∀ n < 16, IntKind.u8.wrap (((n : Nat) : Int) + 1) = ((n : Nat) : Int) + 1 := by decide +kernel
set_option maxHeartbeats 8000000 in
set_option maxRecDepth 1000000 in
theorem script_Escape.walk (s : ByteArray) (w : World) (hs : s.size ≤ 17592186044416) :
    Calls Tryz.prog 10 #[.string s] w fun e w' => e = .returned (.string (script_Escape.g s)) ∧ Below w.heap.size w w' := by
  go_enter Tryz.func10, Tryz.ntmps10
  go_wp2
  go_loopw [8] (fun i wr => ∃ k : Nat, k ≤ s.size ∧ i = .int .i64 k ∧ Lib.IsBuilderF 45 5 w.heap.size w.heap.size (Lib.byteCells ((s.data.toList.take k).flatMap script_Escape.esc)) wr ∧ Below w.heap.size w wr) (fun i _ => s.size - (intOf i).toNat)
  case atStart =>
    exact ⟨0, Nat.zero_le _, rfl, Lib.IsBuilderF.of (Lib.fresh_isBuilder 45 5 w), (Below.refl _ w).alloc (Nat.le_refl _) _⟩
  case round =>
    obtain ⟨k, hk, rfl, hI, hbw⟩ := hrel
    have hsz := hbw.size
    by_cases hlt : k < s.size
    · have hl := script_Escape.len_le s k hk
      have HS := Lib.hid (script_Escape.take_snoc s k hlt)
      obtain ⟨c, hc⟩ : ∃ c : UInt8, s[k]'hlt = c := ⟨_, rfl⟩
      rw [hc] at HS
      have hc0 : (c.toNat : Int) < 256 := by have := c.toNat_lt; omega
      by_cases h1 : c.toNat = 13
      · have HL := Lib.hid (show script_Escape.esc c = [92, 114] by unfold script_Escape.esc; rw [if_pos h1])
        have h1i : (c.toNat : Int) = 13 := by omega
        go_wp2_with fail
        refine (Bld.WriteString w.heap.size w.heap.size _ ⟨#[92, 114]⟩ _ hI (by rw [Lib.byteCells_length]; show _ + 2 ≤ _; omega) hsz).mono ?_
        rintro e W1 ⟨rfl, h3, b1, _⟩
        go_wp2
        go_roundw
        case rel => exact ⟨k + 1, by omega, by go_num, by rw [HS.out, script_Escape.cells, HL.out]; exact Or.inr h3, hbw.trans b1⟩
        case measure => simp [intOf]; omega
      by_cases h2 : c.toNat = 10
      · have HL := Lib.hid (show script_Escape.esc c = [92, 110] by unfold script_Escape.esc; rw [if_neg h1, if_pos h2])
        have h1i : (c.toNat : Int) = 10 := by omega
        go_wp2_with fail
        refine (Bld.WriteString w.heap.size w.heap.size _ ⟨#[92, 110]⟩ _ hI (by rw [Lib.byteCells_length]; show _ + 2 ≤ _; omega) hsz).mono ?_
        rintro e W1 ⟨rfl, h3, b1, _⟩
        go_wp2
        go_roundw
        case rel => exact ⟨k + 1, by omega, by go_num, by rw [HS.out, script_Escape.cells, HL.out]; exact Or.inr h3, hbw.trans b1⟩
        case measure => simp [intOf]; omega
      have n1 : ((c.toNat : Int) == 13) = false := beq_eq_false_iff_ne.mpr (by omega)
      have n2 : ((c.toNat : Int) == 10) = false := beq_eq_false_iff_ne.mpr (by omega)
      by_cases h3 : c.toNat = 92
      · have HL := Lib.hid (show script_Escape.esc c = [92, 92] by unfold script_Escape.esc; rw [if_neg h1, if_neg h2, if_pos h3])
        have h1i : (c.toNat : Int) = 92 := by omega
        clear n1 n2
        go_wp2_with fail
        refine (Bld.WriteString w.heap.size w.heap.size _ ⟨#[92, 92]⟩ _ hI (by rw [Lib.byteCells_length]; show _ + 2 ≤ _; omega) hsz).mono ?_
        rintro e W1 ⟨rfl, h3, b1, _⟩
        go_wp2
        go_roundw
        case rel => exact ⟨k + 1, by omega, by go_num, by rw [HS.out, script_Escape.cells, HL.out]; exact Or.inr h3, hbw.trans b1⟩
        case measure => simp [intOf]; omega
      have n3 : ((c.toNat : Int) == 92) = false := beq_eq_false_iff_ne.mpr (by omega)
      by_cases h4 : c.toNat < 32 ∨ 126 < c.toNat
      · have HL := Lib.hid (show script_Escape.esc c = [92, 120, script_Escape.hx (c.toNat / 16), script_Escape.hx (c.toNat % 16)] by unfold script_Escape.esc; rw [if_neg h1, if_neg h2, if_neg h3, if_pos h4])
        by_cases h5 : (c.toNat : Int) < 32
        · obtain ⟨q, hq⟩ : ∃ q : Nat, (c.toNat : Int) / 16 = q := ⟨c.toNat / 16, by omega⟩
          obtain ⟨m, hm⟩ : ∃ m : Nat, Go.bits .and .u8 (c.toNat : Int) 15 = m ∧ m = c.toNat % 16 := ⟨c.toNat % 16, script_Escape.and15 _ (by omega), rfl⟩
          obtain ⟨hm, hmm⟩ := hm
          have hqq : q = c.toNat / 16 := by omega
          have hq1 : (q : Int) + 1 ≤ 16 := by omega
          have hm1 : (m : Int) + 1 ≤ 16 := by omega
          have hq2 : IntKind.u8.wrap ((q : Int) + 1) = (q : Int) + 1 := script_Escape.wrap1 q (by omega)
          have hm2 : IntKind.u8.wrap ((m : Int) + 1) = (m : Int) + 1 := script_Escape.wrap1 m (by omega)
          have hq3 : (q : Int) ≤ (q : Int) + 1 := by omega
          have hm3 : (m : Int) ≤ (m : Int) + 1 := by omega
          have hq4 : 0 ≤ (q : Int) := by omega
          have hm4 : 0 ≤ (m : Int) := by omega
          have hq5 : min (q + 1) 16 - q = 1 := by omega
          have hm5 : min (m + 1) 16 - m = 1 := by omega
          replace hqq := Aside0.mk hqq
          replace hmm := Aside0.mk hmm
          go_wp2_with fail
          refine start_ (n := 15) (S := fun _ => True) (ds := []) (ba 15 0) (by kernel_rfl) rfl rfl trivial (fun hHeld => ?_); refine with_tab rfl (fun HT_ => ?_)
          have hI2 : Lib.IsBuilderF 45 5 w.heap.size w.heap.size (Lib.byteCells ((s.data.toList.take k).flatMap script_Escape.esc)) wr.drew := hI
          have hbw2 := hbw.drew
          generalize wr.drew = w2 at hI2 hbw2 hHeld ⊢
          refine pu_ 0 35 1 ?_
          refine pu_ 1 36 3 ?_
          refine pu_ 2 37 7 ?_
          refine pu_ 3 38 15 ?_
          refine pu_ 4 39 31 ?_
          refine pu_ 5 40 63 ?_
          refine pu_ 6 41 127 ?_
          refine pu_ 7 42 255 ?_
          refine pu_ 8 43 511 ?_
          refine pu_ 9 44 1023 ?_
          refine pu_ 10 45 2047 ?_
          refine pu_ 11 46 4095 ?_
          refine pu_ 12 47 8191 ?_
          refine pu_ 13 48 16383 ?_
          refine one1 14 (some 49) 32767 (fun K hK => ?_)
          refine cs_ Tryz.func18 (Bld.WriteString w.heap.size w.heap.size _ _ w2 hI2 (by rw [Lib.byteCells_length, script_Escape.size4 q m (by omega) (by omega)]; omega) hbw2.size) ?_
          rintro W1 ⟨h3, b1, _⟩
          refine hK.out _ _ trivial (fun hHeld => ?_)
          clear hK K
          refine nm_ (some 49) ?_
          refine done_ (done_of HT_.out (by kernel_rfl)) ?_
          try go_wp2
          go_roundw
          case rel => exact ⟨k + 1, by omega, by go_num, by rw [HS.out, script_Escape.cells, HL.out, ← hqq.out, ← hmm.out, ← script_Escape.cells4 q m (by omega) (by omega)]; exact Or.inr h3, hbw2.trans b1⟩
          case measure => simp [intOf]; omega
        · have h6 : 126 < (c.toNat : Int) := by omega
          obtain ⟨q, hq⟩ : ∃ q : Nat, (c.toNat : Int) / 16 = q := ⟨c.toNat / 16, by omega⟩
          obtain ⟨m, hm⟩ : ∃ m : Nat, Go.bits .and .u8 (c.toNat : Int) 15 = m ∧ m = c.toNat % 16 := ⟨c.toNat % 16, script_Escape.and15 _ (by omega), rfl⟩
          obtain ⟨hm, hmm⟩ := hm
          have hqq : q = c.toNat / 16 := by omega
          have hq1 : (q : Int) + 1 ≤ 16 := by omega
          have hm1 : (m : Int) + 1 ≤ 16 := by omega
          have hq2 : IntKind.u8.wrap ((q : Int) + 1) = (q : Int) + 1 := script_Escape.wrap1 q (by omega)
          have hm2 : IntKind.u8.wrap ((m : Int) + 1) = (m : Int) + 1 := script_Escape.wrap1 m (by omega)
          have hq3 : (q : Int) ≤ (q : Int) + 1 := by omega
          have hm3 : (m : Int) ≤ (m : Int) + 1 := by omega
          have hq4 : 0 ≤ (q : Int) := by omega
          have hm4 : 0 ≤ (m : Int) := by omega
          have hq5 : min (q + 1) 16 - q = 1 := by omega
          have hm5 : min (m + 1) 16 - m = 1 := by omega
          replace hqq := Aside0.mk hqq
          replace hmm := Aside0.mk hmm
          go_wp2_with fail
          refine start_ (n := 15) (S := fun _ => True) (ds := []) (ba 15 0) (by kernel_rfl) rfl rfl trivial (fun hHeld => ?_); refine with_tab rfl (fun HT_ => ?_)
          have hI2 : Lib.IsBuilderF 45 5 w.heap.size w.heap.size (Lib.byteCells ((s.data.toList.take k).flatMap script_Escape.esc)) wr.drew := hI
          have hbw2 := hbw.drew
          generalize wr.drew = w2 at hI2 hbw2 hHeld ⊢
          refine pu_ 0 35 1 ?_
          refine pu_ 1 36 3 ?_
          refine pu_ 2 37 7 ?_
          refine pu_ 3 38 15 ?_
          refine pu_ 4 39 31 ?_
          refine pu_ 5 40 63 ?_
          refine pu_ 6 41 127 ?_
          refine pu_ 7 42 255 ?_
          refine pu_ 8 43 511 ?_
          refine pu_ 9 44 1023 ?_
          refine pu_ 10 45 2047 ?_
          refine pu_ 11 46 4095 ?_
          refine pu_ 12 47 8191 ?_
          refine pu_ 13 48 16383 ?_
          refine one1 14 (some 49) 32767 (fun K hK => ?_)
          refine cs_ Tryz.func18 (Bld.WriteString w.heap.size w.heap.size _ _ w2 hI2 (by rw [Lib.byteCells_length, script_Escape.size4 q m (by omega) (by omega)]; omega) hbw2.size) ?_
          rintro W1 ⟨h3, b1, _⟩
          refine hK.out _ _ trivial (fun hHeld => ?_)
          clear hK K
          refine nm_ (some 49) ?_
          refine done_ (done_of HT_.out (by kernel_rfl)) ?_
          try go_wp2
          go_roundw
          case rel => exact ⟨k + 1, by omega, by go_num, by rw [HS.out, script_Escape.cells, HL.out, ← hqq.out, ← hmm.out, ← script_Escape.cells4 q m (by omega) (by omega)]; exact Or.inr h3, hbw2.trans b1⟩
          case measure => simp [intOf]; omega
      · have HL := Lib.hid (show script_Escape.esc c = [c] by unfold script_Escape.esc; rw [if_neg h1, if_neg h2, if_neg h3, if_neg h4])
        have h5 : ¬ (c.toNat : Int) < 32 := by omega
        have h6 : ¬ 126 < (c.toNat : Int) := by omega
        go_wp2_with fail
        refine (Bld.WriteByte w.heap.size w.heap.size _ _ _ hI (by rw [Lib.byteCells_length]; omega) hsz).mono ?_
        rintro e W1 ⟨rfl, h3, b1, _⟩
        go_wp2
        go_roundw
        case rel => exact ⟨k + 1, by omega, by go_num, by rw [HS.out, script_Escape.cells, HL.out]; exact Or.inr h3, hbw.trans b1⟩
        case measure => simp [intOf]; omega
    · obtain rfl : s.size = k := by omega
      have HT := Lib.hid (show (s.data.toList.take s.size) = s.data.toList from List.take_of_length_le (by rw [data_length]; exact Nat.le_refl _))
      have hl := script_Escape.len_le s s.size (Nat.le_refl _)
      go_wp2_with fail
      refine (Tryz.Builder_String_any_k w.heap.size w.heap.size _ _ hI (by omega)).mono ?_
      rintro e W1 ⟨rfl, _, b1, _⟩
      go_wp2
      go_ret
      exact ⟨congrArg (fun l : List UInt8 => Ending.returned (.string ⟨(l.flatMap script_Escape.esc).toArray⟩)) HT.out, hbw.trans b1⟩
theorem script_Escape.calls (a0 : ByteArray) (r : ByteArray) (w : World) (h : script_Escape.f a0 = some r) :
    Calls Tryz.prog 10 #[.string a0] w fun e w' => e = .returned (.string r) ∧ Below w.heap.size w w' := by
 unfold script_Escape.f at h
 by_cases h0 : a0.size ≤ 17592186044416
 ·rw [if_pos h0] at h
  obtain rfl := Option.some.inj h
  exact script_Escape.walk a0 w h0
 ·rw [if_neg h0] at h
  cases h
end

/-! ### strconv_Itoa: function 15 -/
def strconv_Itoa.f (a0 : Int) : Option (ByteArray) := if -9223372036854775808 ≤ a0 then (if a0 ≤ 9223372036854775807 then (some ⟨(Lib.itoa a0).toArray⟩) else none) else none
theorem strconv_Itoa.below (w : World) (k : Nat) (os : Array Obj) : Below w.heap.size w (Sort.grow (w.drewN k) os) :=
  ⟨rfl, rfl, rfl, by simp [Sort.grow], fun j hj => by simp [Sort.grow, Array.getElem?_append, hj]⟩
theorem strconv_Itoa.calls (a0 : Int) (r : ByteArray) (w : World) (hG : Amb w) (h : strconv_Itoa.f a0 = some r) :
    Calls Tryz.prog 15 #[.int .i64 a0] w fun e w' => e = .returned (.string r) ∧ Below w.heap.size w w' := by
 unfold strconv_Itoa.f at h
 by_cases h0 : -9223372036854775808 ≤ a0
 ·rw [if_pos h0] at h
  by_cases h1 : a0 ≤ 9223372036854775807
  ·rw [if_pos h1] at h
   obtain rfl := Option.some.inj h
   refine (Tryz.strconv_Itoa a0 h0 h1 w hG.pow).mono ?_
   rintro e w' ⟨rfl, k, os, rfl⟩
   exact ⟨rfl, strconv_Itoa.below w k os⟩
  ·rw [if_neg h1] at h
   cases h
 ·rw [if_neg h0] at h
  cases h

end Go.Proofs.YtcgfaagadejpmaaGreatDoor.Q
