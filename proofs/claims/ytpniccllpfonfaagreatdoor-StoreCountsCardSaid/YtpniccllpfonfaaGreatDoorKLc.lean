-- Texts of this session put together by a program of it (wip/pack.py).
import Derived.Test.YtpniccllpfonfaaGreatDoorKCt
import Derived.Test.YtpniccllpfonfaaGreatDoorKG7
namespace Go.Proofs.YtpniccllpfonfaaGreatDoor.St
open Go Go.RowKit Go.Proofs.YtpniccllpfonfaaGreatDoorW.PrintWords Go.Proofs.YtpniccllpfonfaaGreatDoor.Wd Go.Proofs.YtpniccllpfonfaaGreatDoor.Q
theorem not_x (name : ByteArray) : begins ⟨#[120]⟩ (ctrKey name) = false := by
  have : (ctrKey name).data.toList = 110 :: 47 :: name.data.toList := by simp [ctrKey]
  unfold begins
  rw [this]
  rfl
theorem scan_x {name other : ByteArray} {k1 k2 : Nat} {l : List Pr} {cs : List Ch} (H : CI name other k1 k2 l cs) : scanT l cs ⟨#[120]⟩ = [] := by
  have h1 : scanL l ⟨#[120]⟩ = [] := by
    unfold scanL
    cases hd : l.drop (place (keys l) ⟨#[120]⟩) with
    | nil => rfl
    | cons x r =>
      have hx : x ∈ l := List.mem_of_mem_drop (by rw [hd]; exact List.mem_cons_self ..)
      have : begins ⟨#[120]⟩ x.key = false := by rcases (H.kl x hx).1 with e | e <;> rw [e] <;> exact not_x _
      rw [List.takeWhile_cons, if_neg (by rw [this]; decide)]
  have h2 : ∀ (ds : List Ch) (s : List Pr × List Pr), (∀ c ∈ ds, c.key = ctrKey name ∨ c.key = ctrKey other) → ds.foldl (stepT ⟨#[120]⟩) s = s := by
    intro ds
    induction ds with
    | nil => intro s _; rfl
    | cons c ds ih =>
      intro s hk
      have : begins ⟨#[120]⟩ c.key = false := by rcases hk c (List.mem_cons_self ..) with e | e <;> rw [e] <;> exact not_x _
      rw [List.foldl_cons, stepT, if_neg (by rw [this]; decide)]
      exact ih s (fun d hd => hk d (List.mem_cons_of_mem _ hd))
  unfold scanT
  rw [h1, h2 cs _ (fun c hc => (H.kc c hc).1)]
  rfl
set_option maxRecDepth 100000 in
set_option maxHeartbeats 4000000 in
theorem same_nil {w : World} (a b : Option Addr) (c d : Nat) : Calls Tryz.prog 15 #[.slice a 0 c, .slice b 0 d] w fun e w' => e = .returned (.bool true) ∧ Below w.heap.size w w' := by
  go_enter Tryz.func15, Tryz.ntmps15
  go_wp2_with (fail)
  go_loopw [5, 6] (fun s i wr => s = .bool true ∧ i = .int .i64 0 ∧ wr = w) (fun _ _ _ => 0)
  case atStart => exact ⟨rfl, rfl, rfl⟩
  case round =>
    obtain ⟨rfl, rfl, rfl⟩ := hrel
    go_wp2_with (fail)
    go_ret
    exact ⟨rfl, Below.refl _ _⟩
/-- While numbers are told. -/
def RCt (W : World) (gs gw gd : Nat) (vl : Value) (name other : ByteArray) (n : Nat) (vt vi : Value) (wr : World) : Prop :=
  ∃ (k gt gb : Nat) (vr vb : Value) (p : Nat) (l : List Pr) (cs : List Ch), k ≤ n ∧ vi = .int .i64 ((k : Int) + 1) ∧ vt = .pointer (some ⟨gt, 0, none⟩) ∧ TxI W wr gt gs gw gd gb 4096 256 vl vr vb 0 p 1073741824 l cs 0 ∧ CI name other k k l cs ∧ p ≤ 3000 * k
section
variable {W : World}
set_option maxRecDepth 100000 in
set_option maxHeartbeats 8000000 in
theorem storeCounts_walk (hA : Amb W) (n : Int) (name other : ByteArray) (every : Int) (_hn : -9223372036854775808 ≤ n ∧ n ≤ 9223372036854775807) (_he : -9223372036854775808 ≤ every ∧ every ≤ 9223372036854775807) : Calls Tryz.prog 3 #[.int .i64 n, .string name, .string other, .int .i64 every] W fun e w' => e = .returned (.bool true) ∧ Below W.heap.size W w' := by
  by_cases hr : 0 ≤ n ∧ n ≤ 40 ∧ name.size ≤ 100 ∧ other.size ≤ 100 ∧ name ≠ other
  · obtain ⟨h1, h2, h3, h4, h5⟩ := hr
    obtain ⟨n, rfl⟩ := Int.eq_ofNat_of_zero_le h1
    have hne : (name.toList == other.toList) = false := by simpa using fun e => h5 (bytes_ext e)
    have H5 := Lib.hid h5
    clear h5
    go_enter Tryz.func3, Tryz.ntmps3
    go_wp2_with (first
      | (go_at_call 9; (with_reducible refine (works_ok hA).mono ?_); rintro e w1 ⟨rfl, b1⟩)
      | (go_at_call 10; (with_reducible refine (world_nil (w := w1)).mono ?_); rintro e w2 ⟨gs, gw, gd, vl, rfl, hk, b2⟩)
      | (go_at_call 11; (with_reducible refine (begin_any b2 hk).mono ?_); rintro e w3 ⟨gt, gb, rfl, X3, b3⟩))
    go_loopw [10, 11] (fun vt vi wr => RCt w1 gs gw gd vl name other n vt vi wr) (fun _ vi _ => (n + 1) - (intOf vi).toNat)
    case atStart =>
      refine ⟨0, gt, gb, _, _, 0, [], [], Nat.zero_le _, by simp, rfl, X3, ⟨?_, ?_, fun c hc => (by cases hc), fun x hx => (by cases hx)⟩, by omega⟩
      · simp [see, getC, getP, thereC, thereP, place, keysC, keys, cntV]
      · simp [see, getC, getP, thereC, thereP, place, keysC, keys, cntV]
    case round =>
      obtain ⟨k, gt, gb, vr, vb, p, l, cs, hkn, rfl, rfl, X, hC, hp⟩ := hrel
      have hA1 := hA.at b1
      have hl2 : l.length ≤ 2 := two_keys (f := Pr.key) X.kv.srt (fun x hx => (hC.kl x hx).1)
      by_cases hlt : k < n
      · have i1 : (k : Int) + 1 ≤ (n : Int) := by omega
        have hn1 : ∀ X', TxI w1 X' gt gs gw gd gb 4096 256 vl vr vb 0 p 1073741824 l cs 0 → Calls Tryz.prog 12 #[.pointer (some ⟨gt, 0, none⟩), .string name] X' fun en w' => ∃ vb' cs', en = .returned (.int .i64 ((k : Int) + 1)) ∧ TxI w1 w' gt gs gw gd gb 4096 256 vl vr vb' 0 p 1073741824 l cs' 0 ∧ CI name other (k + 1) k l cs' := fun X' hX => by
          refine (cnext_any hA1 hX hC H5.out h3 (by omega) (by omega)).mono ?_
          rintro en w' ⟨vb', cs', rfl, a1, a2, _⟩
          exact ⟨vb', cs', by simp, a1, a2⟩
        go_wp2_with (go_at_call 12; (with_reducible refine (hn1 _ X).mono ?_); rintro e w4 ⟨vb4, cs4, rfl, X4, hC4⟩)
        (go_at_call 12; (with_reducible refine (cnext_any hA1 X4 hC4.swap (Ne.symm H5.out) h4 (by omega) (by omega)).mono ?_); rintro e w5 ⟨vb5, cs5, rfl, X5, hC5', h05⟩)
        have hC5 := hC5'.swap
        have hso := commitL_sorted cs5 l X5.kv.srt
        have hCc := ci_commit hC5 X5.bt.srt X5.kv.srt hso
        have hus := ci_used hCc h3 h4 hso
        have hrw := ci_row hC5 h3 h4 X5.bt.srt
        have hcm := tcommit_puts X5 rfl (by omega) h05 (fun c hc => (hC5.kc c hc).2.1) (by omega) (by decide) (by show p + 9 + (rowL (cs5.map textC)).length + 1 ≤ half_ 4096 * 256; unfold half_; omega)
        have HM := Lib.hid hcm
        have HU := Lib.hid (And.intro hCc (And.intro hus hrw))
        clear hcm hso hCc hus hrw
        by_cases hev : 0 < every
        · have hmt : Int.tmod ((k : Int) + 1) every = ((k : Int) + 1) % every := Int.tmod_eq_emod_of_nonneg (by omega)
          by_cases hm : ((k : Int) + 1) % every = 0
          · go_wp2_with (first
              | (go_at_call 13; (with_reducible refine HM.out.mono ?_); rintro e w6 ⟨vr6, rfl, X6, t6⟩)
              | (go_at_call 11; (with_reducible refine (begin_any X6.low X6.kv).mono ?_); rintro e w7 ⟨gt7, gb7, rfl, X7, b7⟩))
            clear hm hmt
            go_roundw
            case rel => exact ⟨k + 1, gt7, gb7, _, _, _, _, [], hlt, by simp, rfl, X7, HU.out.1, by have := HU.out.2.2; omega⟩
            case measure => simp [intOf]; omega
          · go_wp2_with (fail)
            clear hm hmt
            go_roundw
            case rel => exact ⟨k + 1, gt, gb, _, _, _, _, _, hlt, by simp, rfl, X5, hC5, by omega⟩
            case measure => simp [intOf]; omega
        · go_wp2_with (fail)
          go_roundw
          case rel => exact ⟨k + 1, gt, gb, _, _, _, _, _, hlt, by simp, rfl, X5, hC5, by omega⟩
          case measure => simp [intOf]; omega
      · obtain rfl : k = n := by omega
        have hq1 : ¬ 9223372036854775807 < 2 + name.size := by omega
        have hget : Calls Tryz.prog 14 #[.pointer (some ⟨gt, 0, none⟩), .string (ctrKey name)] wr fun e w' => e = .returned (.tuple #[.string (cntV k).1, .bool (decide (0 < (k : Int)))]) ∧ Below wr.heap.size wr w' := by
          have := tget_any X (by omega) (ctrKey name)
          rw [hC.s1] at this
          have e2 : (cntV k).2 = decide (0 < (k : Int)) := by
            unfold cntV
            by_cases h : k = 0
            · rw [if_pos h, h]
              rfl
            · rw [if_neg h]
              exact (decide_eq_true (by omega)).symm
          rw [e2] at this
          exact this
        have hscan : ∀ W', Below wr.heap.size wr W' → Calls Tryz.prog 16 #[.pointer (some ⟨gt, 0, none⟩), .string ⟨#[120]⟩] W' fun e w' => ∃ a c, e = .returned (.slice a 0 c) ∧ Below W'.heap.size W' w' := fun W' hb => by
          refine (tscan_any (X.ofBelow hb) (by omega) ⟨#[120]⟩).mono ?_
          rintro e w' ⟨v, rfl, hr, hb'⟩
          rw [scan_x hC] at hr
          obtain ⟨a, c, rfl, _⟩ := sliceE_of hr
          exact ⟨a, c, rfl, hb'⟩
        have HB : Below wr.heap.size wr wr := Below.refl _ _
        have hlow := X.low
        by_cases hk0 : 0 < (k : Int)
        · have hd : decide (0 < (k : Int)) = true := decide_eq_true hk0
          rw [hd] at hget
          go_wp2_with (first
            | (go_at_call 14; (with_reducible refine hget.mono ?_); rintro e w6 ⟨rfl, hb⟩; replace HB := HB.trans (hb.mono HB.size))
            | (go_at_call 16; (with_reducible refine (hscan _ HB).mono ?_); rintro e w7 ⟨sa, sc, rfl, hb⟩; replace HB := HB.trans (hb.mono HB.size))
            | (go_at_call 15; (with_reducible refine (same_nil _ _ _ _).mono ?_); rintro e w8 ⟨rfl, hb⟩; replace HB := HB.trans (hb.mono HB.size)))
          go_ret
          exact ⟨rfl, b1.trans ((hlow.trans (HB.mono hlow.size)).mono b1.size)⟩
        · have hd : decide (0 < (k : Int)) = false := decide_eq_false hk0
          rw [hd] at hget
          go_wp2_with (first
            | (go_at_call 14; (with_reducible refine hget.mono ?_); rintro e w6 ⟨rfl, hb⟩; replace HB := HB.trans (hb.mono HB.size))
            | (go_at_call 16; (with_reducible refine (hscan _ HB).mono ?_); rintro e w7 ⟨sa, sc, rfl, hb⟩; replace HB := HB.trans (hb.mono HB.size))
            | (go_at_call 15; (with_reducible refine (same_nil _ _ _ _).mono ?_); rintro e w8 ⟨rfl, hb⟩; replace HB := HB.trans (hb.mono HB.size)))
          go_ret
          exact ⟨rfl, b1.trans ((hlow.trans (HB.mono hlow.size)).mono b1.size)⟩
  · by_cases g1 : n < 0
    · clear hr
      go_enter Tryz.func3, Tryz.ntmps3
      go_wp2_with (first
        | (go_at_call 9; (with_reducible refine (works_ok hA).mono ?_); rintro e w1 ⟨rfl, b1⟩)
        | (go_at_call 10; (with_reducible refine (world_nil (w := w1)).mono ?_); rintro e w2 ⟨gs, gw, gd, vl, rfl, hk, b2⟩))
      go_ret
      exact ⟨rfl, b1.trans (b2.mono b1.size)⟩
    · by_cases g2 : 40 < n
      · clear hr
        go_enter Tryz.func3, Tryz.ntmps3
        go_wp2_with (first
          | (go_at_call 9; (with_reducible refine (works_ok hA).mono ?_); rintro e w1 ⟨rfl, b1⟩)
          | (go_at_call 10; (with_reducible refine (world_nil (w := w1)).mono ?_); rintro e w2 ⟨gs, gw, gd, vl, rfl, hk, b2⟩))
        go_ret
        exact ⟨rfl, b1.trans (b2.mono b1.size)⟩
      · by_cases g3 : (100 : Int) < (name.size : Int)
        · clear hr
          go_enter Tryz.func3, Tryz.ntmps3
          go_wp2_with (first
            | (go_at_call 9; (with_reducible refine (works_ok hA).mono ?_); rintro e w1 ⟨rfl, b1⟩)
            | (go_at_call 10; (with_reducible refine (world_nil (w := w1)).mono ?_); rintro e w2 ⟨gs, gw, gd, vl, rfl, hk, b2⟩))
          go_ret
          exact ⟨rfl, b1.trans (b2.mono b1.size)⟩
        · by_cases g4 : (100 : Int) < (other.size : Int)
          · clear hr
            go_enter Tryz.func3, Tryz.ntmps3
            go_wp2_with (first
              | (go_at_call 9; (with_reducible refine (works_ok hA).mono ?_); rintro e w1 ⟨rfl, b1⟩)
              | (go_at_call 10; (with_reducible refine (world_nil (w := w1)).mono ?_); rintro e w2 ⟨gs, gw, gd, vl, rfl, hk, b2⟩))
            go_ret
            exact ⟨rfl, b1.trans (b2.mono b1.size)⟩
          · have g5 : name = other := by
              rcases Classical.em (name = other) with h | h
              · exact h
              · exact absurd ⟨by omega, by omega, by omega, by omega, h⟩ hr
            clear hr
            subst g5
            have g6 : (name.toList == name.toList) = true := beq_self_eq_true _
            go_enter Tryz.func3, Tryz.ntmps3
            go_wp2_with (first
              | (go_at_call 9; (with_reducible refine (works_ok hA).mono ?_); rintro e w1 ⟨rfl, b1⟩)
              | (go_at_call 10; (with_reducible refine (world_nil (w := w1)).mono ?_); rintro e w2 ⟨gs, gw, gd, vl, rfl, hk, b2⟩))
            go_ret
            exact ⟨rfl, b1.trans (b2.mono b1.size)⟩
end
end Go.Proofs.YtpniccllpfonfaaGreatDoor.St
