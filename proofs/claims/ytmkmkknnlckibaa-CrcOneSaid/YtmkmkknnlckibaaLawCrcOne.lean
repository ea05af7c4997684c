/- What is sealed fits, and with any one bit turned it does not: for every text, every place and every bit (beyond 1000 bytes the law asks the chapter's example alone). -/
import Derived.Test.YtmkmkknnlckibaaRows
import Derived.Test.YtmkmkknnlckibaaOneA
import Derived.Test.YtmkmkknnlckibaaOneW
import Derived.WalkKit
import Derived.ProofKit
import Derived.OpenShut
import Derived.ShutString
import Derived.ChangeOld
import Derived.Below
import Derived.SizedLaws
namespace Go.Proofs.Ytmkmkknnlckibaa.crcOne
open Go.ChangeShapes Go.WideShapes Go.ChangeAt Go.RowKit
open Go.ChangeMaps (open_string shut_string)
open Go.Proofs.Ytmkmkknnlckibaa.Q Go.Proofs.YtmkmkknnlckibaaW.PrintWords Go.Proofs.Ytmkmkknnlckibaa.Pure

theorem below_some (a : Int) (n : Nat) (hn : 0 < n) (hn2 : n ≤ 140737488351232) : ∃ j : Nat, bulletinbook_Below.f a (n : Int) = some (j : Int) ∧ j < n := by
  have e : ((n : Int) = 0) = False := by
    apply eq_false
    omega
  have hm := Int.tmod_lt_of_pos a (show (0 : Int) < n by omega)
  have hg : -(n : Int) < Int.tmod a n := by
    have := Int.lt_tmod_of_pos a (show (0 : Int) < n by omega)
    omega
  unfold bulletinbook_Below.f
  rw [if_neg (by rw [e]; exact not_false)]
  by_cases hneg : Int.tmod a n < 0
  · rw [if_pos hneg]
    refine ⟨(Int.tmod a n + n).toNat, ?_, ?_⟩
    · congr 1
      unfold wrap64
      omega
    · omega
  · rw [if_neg hneg]
    refine ⟨(Int.tmod a n).toNat, ?_, ?_⟩
    · congr 1
      omega
    · omega

theorem walk (s : ByteArray) (at_ bit : Int) (W : World) (hs : s.size ≤ 140737488351232) (hb : (Lit.int .u8 bit).wf = true) :
    Calls Try.prog 4 #[.string s, .int .i64 at_, .int .u8 bit] W fun e w' => e = .returned (.bool true) ∧ Below W.heap.size W w' := by
  have hbb := bounds_u8 hb
  by_cases h : s.size ≤ 1000
  · obtain ⟨j, hj, hjl⟩ := below_some at_ (s.size + 4) (by omega) (by omega)
    obtain ⟨b, rfl⟩ := Int.eq_ofNat_of_zero_le hbb.1
    have hb8 : b % 8 < 8 := Nat.mod_lt _ (by decide)
    have hp : 2 ^ (b % 8) < 256 := by
      have h7 : 2 ^ (b % 8) ≤ 2 ^ 7 := Nat.pow_le_pow_right (by decide) (by omega)
      omega
    have hsh : (2 : Int) ^ ((b : Int) % 8).toNat % 256 = ((2 ^ (b % 8) : Nat) : Int) := by
      have e1 : ((b : Int) % 8).toNat = b % 8 := by omega
      have e2 : (2 : Int) ^ (b % 8) = ((2 ^ (b % 8) : Nat) : Int) := by simp
      rw [e1, e2]
      generalize 2 ^ (b % 8) = q at hp ⊢
      omega
    have hlen : (bys (seal4 s)).length = s.size + 4 := by rw [bys_length, seal_size]
    have hget : (bytesOf (seal4 s))[j]?.getD 0 = (((bys (seal4 s)).getD j 0 : Nat) : Int) := by
      rw [bytesOf_bys, List.getElem?_map, List.getD_eq_getElem?_getD, List.getElem?_eq_getElem (by omega)]
      rfl
    have hcl : (bys (seal4 s)).getD j 0 < 256 := by
      rw [List.getD_eq_getElem?_getD, List.getElem?_eq_getElem (by omega)]
      exact bys_lt _ _ (List.getElem_mem _)
    refine One.walk_small 30000 s at_ _ (seal4 s) j W hbb.1 hbb.2 h (works_f _ (by decide)) (Seal_f _ s hs (by omega)) (seal_size s) (Fits_seal _ s hs (by omega)) hj hjl ?_
    rw [hsh, hget, u8_xor_nat _ _ hcl hp]
    have hset : (bytesOf (seal4 s)).set j (((bys (seal4 s)).getD j 0 ^^^ 2 ^ (b % 8) : Nat) : Int) = ((bys (seal4 s)).set j ((bys (seal4 s)).getD j 0 ^^^ 2 ^ (b % 8))).map fun c : Nat => (c : Int) := by
      rw [bytesOf_bys, List.map_set]
    rw [hset]
    have hx : (bys (seal4 s)).getD j 0 ^^^ 2 ^ (b % 8) < 256 := Nat.xor_lt_two_pow (n := 8) hcl hp
    refine Fits_turned 30000 s _ j (2 ^ (b % 8)) h (by decide) hjl hp (Nat.ne_of_gt (Nat.pow_pos (by decide))) (bys_strOfNums _ ?_)
    intro c hc
    rcases List.mem_or_eq_of_mem_set hc with hc | rfl
    · exact bys_lt _ _ hc
    · exact hx
  · exact One.walk_long 30000 s at_ bit W (by omega) (works_f _ (by decide))

theorem own : ownKnob Try.prog.godebug = none := by kernel_rfl
set_option maxRecDepth 100000 in
theorem lifted (os : Os) (started : os.Started) (H : Type) (enc : TypeId × Value → H) :
    ReturnsInHanded {} Try.checked os 4 .any (Rows.crcOneSpec.pre6 enc Try.prog Try.f4 Rows.crcOneRow.domain false) (Rows.crcOneSpec.post enc Try.prog Try.f4 false true false false) := by
  refine returnsInHanded_of_change_sized (C := Try.checked) own started (by kernel_rfl) Try.func4
    (ChangeSpec.witness6 (enc := enc) (C := Try.checked) false ⟨#[], #[.string ByteArray.empty, .int .i64 0, .int .u8 0], []⟩ 8 (by kernel_rfl) (by kernel_rfl) (by kernel_rfl) (by kernel_rfl)) ?_
  intro W base args ds gs before hval0 hW hcnd hsz0 _
  have hsz : (DataW.weightsEach Try.prog (Try.f4.params.toList ++ Rows.crcOneSpec.plain.varTypes Try.prog) (ds ++ gs)).all (· ≤ reachBytes) = true := hsz0
  have hval : ∀ (j : Nat) t v, Try.f4.params[j]? = some t → args[j]? = some v → Value.okWide Try.prog W .any base t v := hval0
  have hW' := hW
  obtain ⟨p, q, hA0, hV, rfl, hfz, hnd⟩ := hW
  have hA : DataW.TrodAll enc Try.prog W 0 (fun _ => true) true Try.f4.params.toList args.toList ds p := hA0
  rw [Try.params4] at hA hval hsz
  obtain ⟨v0, vs0, d0, ds0, p0, q0, hargs, rfl, rfl, h0, r0⟩ := trodAll_cons hA
  obtain ⟨v1, vs1, d1, ds1, p1, q1, rfl, rfl, rfl, h1, r1⟩ := trodAll_cons r0
  obtain ⟨v2, vs2, d2, ds2, p2, q2, rfl, rfl, rfl, h2, r2⟩ := trodAll_cons r1
  obtain ⟨rfl, rfl, rfl⟩ := trodAll_nil r2
  obtain rfl : args = #[v0, v1, v2] := by cases args; simp_all
  obtain ⟨rfl, rfl⟩ := trodVars_none hV
  obtain ⟨a0, rfl, rfl, rfl, y0⟩ := open_string Try.underlying9 (hval 0 9 v0 rfl rfl) h0
  have w0 : a0.size ≤ 140737488351232 := by
    have z := sized_string hsz (j := 0) (t := 9) rfl rfl
    rw [Array.length_toList] at z
    exact z
  obtain ⟨a1, rfl, rfl, rfl, w1⟩ := open_int Try.underlying3 (hval 1 3 v1 rfl rfl) h1
  obtain ⟨a2, rfl, rfl, rfl, w2⟩ := open_int Try.underlying5 (hval 2 5 v2 rfl rfl) h2
  clear hA0 hval0 hsz0 hsz
  refine (walk a0 a1 a2 W w0 w2).mono fun e W' ⟨he, bel⟩ => ?_
  subst he
  exact ⟨_, rfl, _, _, _, [], _, [], hW', trodAll_mk1 (shut_bool Try.underlying4 _), (trodAll_cons_mk (shut_string Try.underlying9 y0) (trodAll_cons_mk (shut_int Try.underlying3 w1) (trodAll_cons_mk (shut_int Try.underlying5 w2) trodAll_mk0))), rfl, bel.frame _, fun h => by cases h⟩
theorem over : Rows.crcOneRow.holds Try.pinned (OpenSpec.ofChange Rows.crcOneSpec) :=
  OpenClaim.holds_of_wide 4 Try.f4 rfl rfl rfl rfl rfl rfl rfl ⟨rfl, rfl, rfl, rfl, rfl⟩ rfl rfl rfl rfl rfl (by kernel_rfl) Try.func4 (by kernel_rfl)
    (of_decide_eq_true (by kernel_rfl)) (by unfold Func.isWrapper; first | (rw [if_pos (by decide +kernel)]; kernel_rfl) | (rw [if_neg (by decide +kernel)]; exact ⟨rfl, rfl⟩))
    (fun os started H enc _ => lifted os started H enc)
theorem proved : Rows.CrcOneSaid := over
#print axioms proved
end Go.Proofs.Ytmkmkknnlckibaa.crcOne
namespace Go.Proofs.Ytmkmkknnlckibaa
/-- The row, under a short name, for the claim. -/
theorem crcOne_holds : Rows.CrcOneSaid := crcOne.proved
end Go.Proofs.Ytmkmkknnlckibaa
