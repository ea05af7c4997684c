-- Texts of this session put together by a program of it (wip/pack.py).
import Derived.Test.YtpniccllpfonfaaGreatDoorKG2
import Derived.Test.YtpniccllpfonfaaGreatDoorKBase
import Derived.RangeFuncNested
import Derived.RangeFuncBound
import Derived.RangeFuncCalls
import Derived.RangeFuncLeaves
import Derived.Shelf.Abstract
import Derived.Shelf.RegionOpen
import Derived.OwnWalkIn
import Derived.TacticsInMore
import Derived.LoopNIn
import Derived.LoopIn
import Derived.Test.YtpniccllpfonfaaGreatDoorKWy
import Derived.Test.YtpniccllpfonfaaGreatDoorKG1
import Derived.Test.YtpniccllpfonfaaGreatDoorKQ6
namespace Go.Proofs.YtpniccllpfonfaaGreatDoor.St
open Go Go.RowKit Go.Shelf Go.Proofs.YtpniccllpfonfaaGreatDoorW.PrintWords Go.Proofs.YtpniccllpfonfaaGreatDoor.Wd
attribute [local go_sem] Oper.semAt_some
theorem stepIn_append_run {F : Fence} {n : Nat} {P : Program} {ops : Array Oper} {o : Oper} {a : Act} {w : World} {K : Act → World → Prop} {Q : Exit → Act → World → Prop} {E : Prop} (hg : o.guard = none) (s x : Operand) (t : TypeId) (hop : o.op = Op.call { callee := Callee.builtin Builtin.append, args := #[s, x], argTypes := #[t, t] }) (v u : Value) (hs : a.eval s = v) (hx : a.eval x = u) {v' : Value} {w' : World}
    (hrun : (Builtin.append_ #[t, t] o.type #[v, u]).run P w = .ok v' w') (hK : K (a.put o.dst v') w') : if Region.wanted o (yielded ops a.tmps) = true then Oper.wpIn F n P o a w K Q else E := by
  have hw : Region.wanted o (yielded ops a.tmps) = true := by simp [Region.wanted, hg]
  rw [if_pos hw]
  unfold Oper.wpIn
  refine ⟨?_, ?_⟩
  · simp [Oper.about, hop, resolve, Target.leads, Sem.run_pure]
  · rw [Oper.semAt_plain F _ _ (by rw [hop]; intro c hc'; cases hc')]
    simp [execOp, hop, resolve, invoke, builtin, hs, hx, hrun, Result.andThen]
    exact hK
theorem below_alloc' {n : Nat} {W : World} (h : n ≤ W.heap.size) (o : Obj) : Below n W (W.alloc o) := (Below.refl n W).alloc h o
theorem keepsFrom_of_turn {B : Nat} {W W' : World} {S : Nat → Prop} (h : Turn W W' S) (hS : ∀ k o, S k → W.heap[k]? = some o → o.isCells = true) : KeepsFrom B W W' :=
  ⟨h.size, fun k o _ ho hc => (h.block (Array.getElem?_eq_some_iff.1 ho).1 (fun hs => by rw [hS k o hs ho] at hc; cases hc)).trans ho⟩
theorem row_cells_of {w : World} {B e z n : Nat} {v : Value} {xs : List Value} (h : w.ownsRow B e z v n xs) (k : Nat) (hk : v.ownBlock = some k) {o : Obj} (ho : w.heap[k]? = some o) : o.isCells = true := by
  rcases h.2 with ⟨h1, _⟩ | ⟨g, cap, cur, h1, _, h4, _⟩
  · rw [h1] at hk; cases hk
  · rw [h1] at hk
    have e1 : g = k := Option.some.inj hk
    subst e1
    rw [h4] at ho
    obtain rfl := Option.some.inj ho
    rfl
theorem strs_app (a b : List ByteArray) : strs (a ++ b) = strs a ++ strs b := by simp [strs]
/-- Changes whose texts are short. -/
abbrev OkC := { c : Ch // c.key.size < 2000000 ∧ c.val.size < 2000000 }
theorem okC_list (l : List Ch) (h : ∀ c ∈ l, c.key.size < 2000000 ∧ c.val.size < 2000000) : ∃ lo : List OkC, lo.map (fun x => x.1) = l := by
  refine ⟨l.attach.map fun c => ⟨c.1, h c.1 c.2⟩, ?_⟩
  rw [List.map_map]
  exact List.attach_map_subtype_val l
def aggC (c : Ch) : Value := .agg #[.string c.key, .string c.val, .bool c.gone]
section
variable {B : Nat} {w w' : World} {gb : Nat} {vb : Value} {l : List Ch}
set_option maxRecDepth 100000 in
set_option maxHeartbeats 4000000 in
theorem ball_any (gb : Nat) (w : World) : Calls Tryz.prog 50 #[.pointer (some ⟨gb, 0, none⟩)] w fun e w' => e = .returned (.func (.func 92) #[] #[.pointer (some ⟨w.heap.size, 0, none⟩)]) ∧ w' = w.alloc (.cells #[.pointer (some ⟨gb, 0, none⟩)] 86) := by
  go_enter Tryz.func50, Tryz.ntmps50
  go_wp2_with (fail)
  go_ret
  exact ⟨rfl, rfl⟩
set_option maxRecDepth 100000 in
set_option maxHeartbeats 4000000 in
theorem all_stops {α : Type} (f : α → Ch) (l' : List α) (hl : l'.map f = l) (n Bn n₀ : Nat) (hBn : Bn < w.heap.size) (hn₀ : n₀ ≤ w.heap.size) (hc : w.cell? ⟨Bn, 0, none⟩ = some (.pointer (some ⟨gb, 0, none⟩))) (H : Bt B w gb vb l) (hlow : ∀ k, BtS gb vb k → k < n₀) :
    SeqStopsK Fence.wide n Tryz.prog 92 #[.pointer (some ⟨Bn, 0, none⟩)] (fun x : α => #[.agg #[.string (f x).key, .string (f x).val, .bool (f x).gone]]) (Below n₀) (fun ys => ys = l') (fun pre => pre <+: l') l'.length w := by
  intro l0 J Jx W hW hJ hJx hY h0
  show CallsIn Fence.wide n Tryz.prog 92 #[.func (.yield l0) #[] #[], .pointer (some ⟨Bn, 0, none⟩)] W _
  obtain ⟨a, cc, rfl, _⟩ := sliceE_of H.row
  have HW := H.ofBelow hW
  have hcW := (hW.cell (p := ⟨Bn, 0, none⟩) hBn).trans hc
  have hgb := hlow gb (.inl rfl)
  have hlen : l.length = l'.length := by rw [← hl, List.length_map]
  have c0 : W.cell? ⟨gb, 0, none⟩ = some (.slice a l'.length cc) := by rw [← hlen]; exact blk_cell HW.blk 0
  have hfew : l'.length ≤ 2000 := by rw [← hlen]; exact H.few
  have hg9 : ∀ i (hi : i < l'.length), ∃ g, a = some ⟨g, 0, none⟩ ∧ g < n₀ ∧ W.cell? ⟨g, i * 3, none⟩ = some (.string (f l'[i]).key) ∧ W.cell? ⟨g, i * 3 + 1, none⟩ = some (.string (f l'[i]).val) ∧ W.cell? ⟨g, i * 3 + 2, none⟩ = some (.bool (f l'[i]).gone) := fun i hi => by
    obtain ⟨g, cur, rfl, _, _, _, hx⟩ := rowE_at HW.row (by omega)
    have hil : i < l.length := by omega
    have e : l[i] = f l'[i] := by subst hl; rw [List.getElem_map]
    rw [← e]
    exact ⟨g, rfl, hlow g (.inr rfl), hx _ _ (by rw [← Nat.add_zero (i * 3), flat_get cellsC 3 cellsC_len l i 0 hil (by decide)]; rfl), hx _ _ (by rw [flat_get cellsC 3 cellsC_len l i 1 hil (by decide)]; rfl), hx _ _ (by rw [flat_get cellsC 3 cellsC_len l i 2 hil (by decide)]; rfl)⟩
  have hnW : n₀ ≤ W.heap.size := Nat.le_trans hn₀ hW.size
  clear HW H hc hlen hl hlow
  refine callsIn_of_wp Tryz.func92 rfl trivial ?_ rfl
  simp only [Tryz.ntmps92, List.size_toArray, List.length_cons, List.length_nil, Nat.reduceAdd, Nat.reduceSub, Array.replicate_succ, Array.replicate_zero, List.push_toArray, List.append_toArray, List.nil_append, List.cons_append]
  gi_wp2
  gi_loopw [10] (fun i wr => ∃ k : Nat, k ≤ l'.length ∧ i = .int .i64 k ∧ J (l'.take k) wr ∧ Below n₀ W wr) (fun i _ => l'.length - (intOf i).toNat)
  case atStart => exact ⟨0, Nat.zero_le _, rfl, h0, Below.refl _ _⟩
  case round =>
    obtain ⟨k, hk, rfl, hJs, hnx⟩ := hrel
    by_cases hlt : k < l'.length
    · obtain ⟨g, rfl, hgn, y0, y1, y2⟩ := hg9 k hlt
      have z0 := (hnx.cell (p := ⟨g, k * 3, none⟩) hgn).trans y0
      have z1 := (hnx.cell (p := ⟨g, k * 3 + 1, none⟩) hgn).trans y1
      have z2 := (hnx.cell (p := ⟨g, k * 3 + 2, none⟩) hgn).trans y2
      have hsz := hnx.size
      have htk : l'.take (k + 1) = l'.take k ++ [l'[k]] := by rw [List.take_add_one, List.getElem?_eq_getElem hlt]; rfl
      have HTK := Lib.hid htk
      have hJa : J (l'.take k) (wr.alloc (.cells #[.string (f l'[k]).key, .string (f l'[k]).val, .bool (f l'[k]).gone] 93)) := hJ _ _ _ none hJs (World.grownBy_alloc wr _ none) (fun r e => by cases e)
      obtain ⟨fn, tmps, assign, body, hy, hR⟩ := hY _ l'[k] _ hJa (by rw [List.length_take]; omega)
      try dsimp only at hy
      have k0 : (0 : Int) ≤ (k : Int) := by omega
      have k1 : (k : Int) < (l'.length : Int) := by omega
      clear htk y0 y1 y2 hg9
      gi_wp2
      refine ⟨(fun h => by cases h), hR.mono ?_⟩
      rintro e W3 (⟨rfl, hJ3, hk3⟩ | ⟨rfl, hJx3⟩)
      · gi_wp2
        go_roundw
        case rel => exact ⟨k + 1, by omega, by simp, by rw [HTK.out]; exact hJ3, (hnx.alloc (by omega) _).trans hk3⟩
        case measure => simp [intOf]; omega
      · gi_wp2
        refine bodyPost_ret (results_none rfl _ _ _) rfl ?_
        exact ⟨⟨_, rfl⟩, .inr ⟨_, by rw [← HTK.out]; exact List.take_prefix _ _, hJx3⟩⟩
    · obtain rfl : k = l'.length := by omega
      clear hg9
      gi_wp2
      go_end0
      exact ⟨⟨_, rfl⟩, .inl ⟨_, by rw [List.take_length], hJs⟩⟩
set_option maxRecDepth 100000 in
set_option maxHeartbeats 8000000 in
theorem btexts_any (H : Bt B w gb vb l) (hm : ∀ c ∈ l, c.key.size < 2000000 ∧ c.val.size < 2000000) : Calls Tryz.prog 86 #[.pointer (some ⟨gb, 0, none⟩)] w fun e w' => ∃ v', e = .returned v' ∧ w'.ownsRow w.heap.size 9 1 v' l.length (strs (l.map textC)) ∧ Below w.heap.size w w' := by
  obtain ⟨lo, hlo⟩ := okC_list l hm
  have hlen : lo.length = l.length := by rw [← hlo, List.length_map]
  clear hm
  refine (callsIn_wide (n := 3)).1 ?_
  refine callsIn_of_wp_marks Tryz.func86 rfl trivial ?_ rfl
  simp only [Tryz.ntmps86, List.size_toArray, List.length_cons, List.length_nil, Nat.reduceAdd, Nat.reduceSub, Array.replicate_succ, Array.replicate_zero, List.push_toArray, List.append_toArray, List.nil_append, List.cons_append]
  gi_wp2_with (refine ⟨trivial, ?_⟩; gi_at_call 50; refine (callsIn_wide.2 (ball_any gb _)).mono ?_; rintro e w' ⟨rfl, rfl⟩)
  have bS := (Boxed.new w 143 (.slice none 0 0)).alloc (.cells #[.pointer (some ⟨gb, 0, none⟩)] 86)
  have bA := Boxed.new (w.alloc (.cells #[.slice none 0 0] 143)) 86 (.pointer (some ⟨gb, 0, none⟩))
  have hB0 : Below w.heap.size w ((w.alloc (.cells #[.slice none 0 0] 143)).alloc (.cells #[.pointer (some ⟨gb, 0, none⟩)] 86)) := below_alloc (below_alloc (Below.refl _ _) _) _
  have hsz : ((w.alloc (.cells #[.slice none 0 0] 143)).alloc (.cells #[.pointer (some ⟨gb, 0, none⟩)] 86)).heap.size = w.heap.size + 2 := by simp
  simp only [World.size_alloc] at bA
  obtain ⟨W0, hW0⟩ : ∃ W0, (w.alloc (.cells #[.slice none 0 0] 143)).alloc (.cells #[.pointer (some ⟨gb, 0, none⟩)] 86) = W0 := ⟨_, rfl⟩
  rw [hW0] at bS bA hB0 hsz ⊢
  clear hW0
  have hfew := H.few
  refine wpIn_rangeFunc_ownH rfl (by decide) (gf := 92) (lb := #[.pointer (some ⟨w.heap.size + 1, 0, none⟩)]) rfl trivial (enters_of Tryz.func92 (by kernel_rfl) rfl)
    (all_stops (fun x : OkC => x.1) lo hlo (3 - 1) (w.heap.size + 1) w.heap.size (by omega) (by omega) bA.cell (H.ofBelow hB0) H.ltS) belowK_t (belowK_b (by omega)) (Below.refl _ _) (fun _ => rfl)
    (fun (pre : List OkC) W => (∃ v, Boxed W w.heap.size 143 v ∧ W.ownsRow w.heap.size 9 1 v pre.length (strs (pre.map fun x => textC x.1)) ∧ True) ∧ Below w.heap.size w W)
    (fun _ _ _ => False)
    (OwnFrom.and (Own.from (holdsRow_own w.heap.size w.heap.size 143 9 1 (fun pre : List OkC => pre.length) (fun pre : List OkC => strs (pre.map fun x => textC x.1)) (fun _ _ => True)) _) (ownFrom_below (Nat.le_refl _) (by omega)))
    (fun _ _ _ _ _ hs _ _ => hs)
    ⟨⟨_, bS, ⟨rfl, .inl ⟨rfl, rfl⟩⟩, trivial⟩, hB0⟩
    (fun (x : OkC) a' W => ∃ Bx, w.heap.size < Bx ∧ W.heap[Bx]? = some (.cells #[.string x.1.key, .string x.1.val, .bool x.1.gone] 93 (0, 0)) ∧ a' = { tmps := #[.pointer (some ⟨gb, 0, none⟩), undef, .slice none 0 0, .pointer (some ⟨w.heap.size, 0, none⟩), .pointer (some ⟨Bx, 0, none⟩), .pointer (some ⟨gb, 0, none⟩), .func (.func 92) #[] #[.pointer (some ⟨w.heap.size + 1, 0, none⟩)], .agg #[.string x.1.key, .string x.1.val, .bool x.1.gone], undef, undef, undef, undef, undef, undef], defers := [] })
    (fun x a' _ X Y row hs hg hr => by
      obtain ⟨Bx, h1, h2, h3⟩ := hs
      refine ⟨Bx, h1, (hg.block Bx (Array.getElem?_eq_some_iff.1 h2).1 (fun e => ?_)).trans h2, h3⟩
      obtain ⟨_, o, ho, hc⟩ := hr Bx e.symm
      rw [h2] at ho
      obtain rfl := Option.some.inj ho
      cases hc)
    ?assign ?body ?done ?stop
  case assign =>
    rintro l0 pre x W K ⟨⟨v, bS1, hrow, _⟩, hB1⟩ hK
    gi_wp2
    exact hK _ _ ((KeepsOthers.alloc _ _).from _) (below_alloc' hB1.size _) ⟨⟨v, bS1.alloc _, hrow.alloc _, trivial⟩, hB1.alloc hB1.size _⟩ ⟨W.heap.size, bS1.lt, heap_alloc_new W _, rfl⟩
  case body =>
    rintro l0 pre x a' W hl ⟨r, hr⟩ ⟨⟨v, bS1, hrow, _⟩, hB1⟩ ⟨Bx, hBx, bX, rfl⟩ hlt
    obtain ⟨a, cc, rfl, _⟩ := sliceE_of hrow
    have cS := bS1.cell
    have x0 := (blk_cell bX 0).trans rfl
    have x1 := (blk_cell bX 1).trans rfl
    have x2 := (blk_cell bX 2).trans rfl
    simp only [List.getElem?_toArray] at x0 x1 x2
    obtain ⟨m1, m2⟩ := x.2
    obtain ⟨i0, hi0, hz0, hz1, hz2⟩ := info_parts infoS
    have hsW := hB1.size
    have hSl := bS1.lt
    have hpl : pre.length < 1000000 := by omega
    have mixed : Tryz.prog.follows Departure.mixedOrders = true := by kernel_rfl
    gi_wp2
    refine wpIn_region_any mixed ?_
    try (change wpAnyIn _ _ _ _ _ _ _ _ _ (World.drew _))
    repeat' ((first
      | refine wpAnyIn_ready (rs := [0, 1]) (by decide +kernel) (by simp) (AllReadyIn.cons rfl (fun K hK => ?_) (AllReadyIn.cons rfl (fun K hK => ?_) AllReadyIn.nil))
      | refine wpAnyIn_ready (rs := [0, 2]) (by decide +kernel) (by simp) (AllReadyIn.cons rfl (fun K hK => ?_) (AllReadyIn.cons rfl (fun K hK => ?_) AllReadyIn.nil))
      | refine wpAnyIn_ready (rs := [0, 3]) (by decide +kernel) (by simp) (AllReadyIn.cons rfl (fun K hK => ?_) (AllReadyIn.cons rfl (fun K hK => ?_) AllReadyIn.nil))
      | refine wpAnyIn_ready (rs := [0]) (by decide +kernel) (by simp) (AllReadyIn.cons rfl (fun K hK => ?_) AllReadyIn.nil)
      | refine wpAnyIn_ready (rs := [1]) (by decide +kernel) (by simp) (AllReadyIn.cons rfl (fun K hK => ?_) AllReadyIn.nil)
      | refine wpAnyIn_ready (rs := [2]) (by decide +kernel) (by simp) (AllReadyIn.cons rfl (fun K hK => ?_) AllReadyIn.nil)
      | refine wpAnyIn_ready (rs := [3]) (by decide +kernel) (by simp) (AllReadyIn.cons rfl (fun K hK => ?_) AllReadyIn.nil)
      | refine wpAnyIn_ready (rs := [4]) (by decide +kernel) (by simp) (AllReadyIn.cons rfl (fun K hK => ?_) AllReadyIn.nil)
      | refine wpAnyIn_ready (rs := [5]) (by decide +kernel) (by simp) (AllReadyIn.cons rfl (fun K hK => ?_) AllReadyIn.nil)) <;> (first
      | (refine stepIn_append_run rfl _ _ _ rfl _ _ rfl rfl hrun ?_; (try go_simp); refine hK _ _ ?_; clear hK K)
      | (go_simp; refine hK _ _ ?_; clear hK K)
      | (go_simp; gi_wp2_with (refine ⟨trivial, ?_⟩; gi_at_call 126; refine (CallsIn.inRound l0 (callsIn_wide.2 (bwrite_any x.1 m1 m2))).mono ?_; rintro e w2 ⟨rfl, hb2⟩; have hbW : Below W.heap.size W w2 := ⟨hb2.os, hb2.tape, hb2.output, hb2.size, hb2.block⟩; have e1 : w2.cell? ⟨w.heap.size, 0, none⟩ = some (.slice a pre.length cc) := (hbW.cell (p := ⟨w.heap.size, 0, none⟩) hSl).trans cS; have e2 : ∀ o, (w2.alloc o).cell? ⟨w.heap.size, 0, none⟩ = some (.slice a pre.length cc) := fun o => (World.cell?_of_block (Below.heap_alloc w2 o _ (Nat.lt_of_lt_of_le hSl hbW.size))).trans e1; obtain ⟨v3, w3, hrun, hown3, hgrow3, _, hat3⟩ := run_append_own_at (P := Tryz.prog) (w2.alloc (.cells #[.string (textC x.1)] 9)) w.heap.size 143 143 9 i0 _ 1 16 Tryz.underlying143 hi0 hz0 hz1 hz2 rfl (by omega) _ pre.length _ ((rowE_below hrow hbW).alloc _) ⟨w2.heap.size, 0, none⟩ 1 1 [.string (textC x.1)] rfl (cell_one_new w2 _ _) (by simp [Value.oneCell']) (by unfold maxLen; omega) (by omega) (by have := hbW.size; simp; omega); obtain ⟨a3, c3, rfl, _⟩ := sliceE_of hown3; have e3 : w3.heap[w.heap.size]? = some (.cells #[.slice a pre.length cc] 143 (0, 0)) := (hgrow3.block _ (by have := hbW.size; simp; omega) (fun e => rowE_ne hrow bS1 (by decide) e.symm)).trans ((Below.heap_alloc w2 _ _ (Nat.lt_of_lt_of_le hSl hbW.size)).trans ((hbW.block _ hSl).trans bS1)); have e4 : w3.cell? ⟨w.heap.size, 0, none⟩ = some (.slice a pre.length cc) := blk_cell e3 0; have e5 := blk_frozen e3 0))))
    all_goals (refine wpAnyIn_done (by kernel_rfl) ?_ _)
    all_goals gi_wp2
    all_goals
      have tw : Turn W (w3.setCell ⟨w.heap.size, 0, none⟩ (.slice a3 (pre.length + 1) c3)) (fun k => k = w.heap.size ∨ (Value.slice a pre.length cc).ownBlock = some k) :=
        (((Turn.of_below hbW _).alloc _).grown hgrow3 (fun k hk => .inl (.inr hk))).setCell (p := ⟨w.heap.size, 0, none⟩) (.inl (.inl rfl)) _
      have n1 : (w3.setCell ⟨w.heap.size, 0, none⟩ (.slice a3 (pre.length + 1) c3)).heap[w.heap.size]? = some (.cells #[.slice a3 (pre.length + 1) c3] 143 (0, 0)) := by
        have := blk_set e3 0 (.slice a3 (pre.length + 1) c3)
        simpa using this
      have hge : ∀ k, (k = w.heap.size ∨ (Value.slice a pre.length cc).ownBlock = some k) → w.heap.size ≤ k := fun k hk => by
        rcases hk with e | e
        · omega
        · exact (hrow.lt k e).1
      have hbl := tw.below (Below.refl w.heap.size W) hsW hge
      refine ⟨keepsFrom_of_turn tw (fun k o hk ho => ?_), hbl, ⟨_, n1, ?_, trivial⟩, hB1.trans hbl⟩
      · rcases hk with e | e
        · subst e
          rw [show W.heap[w.heap.size]? = _ from bS1] at ho
          obtain rfl := Option.some.inj ho
          rfl
        · exact row_cells_of hrow k e ho
      · rw [List.length_append, List.map_append, strs_app]
        exact rowE_of hown3 fun k hk => Below.heap_setCell w3 ⟨w.heap.size, 0, none⟩ _ k (fun e => rowE_ne hown3 e3 (by decide) (by rw [← show k = w.heap.size from e]; exact hk))
  case done =>
    rintro D zs W hD hzs ⟨⟨v, bS1, hrow, _⟩, hB1⟩ hK
    rw [hzs] at hrow
    clear hzs
    have cS := bS1.cell
    obtain ⟨a, cc, rfl, _⟩ := sliceE_of hrow
    gi_wp2
    refine ⟨by simp, .inl ⟨_, _, rfl, run_takeDeferred hK, ?_⟩⟩
    have hrow2 := ownsRow_putObj hrow (Obj.deferred none) hK rfl
    have e1 : strs (lo.map fun x => textC x.1) = strs (l.map textC) := by rw [← hlo, List.map_map]; rfl
    rw [e1, hlen] at hrow2
    exact ⟨_, results_tmp rfl _ _ _, _, by rw [← hlen]; rfl, hrow2, hB1.trans (belowK_b (w := w) (Nat.le_refl _) W D _ _ (by omega) hK rfl rfl)⟩
  case stop =>
    rintro D c pre W _ _ h _
    exact h.elim
end
end Go.Proofs.YtpniccllpfonfaaGreatDoor.St
namespace Go.Proofs.YtpniccllpfonfaaGreatDoor.St
open Go Go.RowKit Go.Proofs.YtpniccllpfonfaaGreatDoorW.PrintWords Go.Proofs.YtpniccllpfonfaaGreatDoor.Wd
/-- A store at block gs over a journal at gw: quota q, pairs l in row vr. -/
structure Kv (B : Nat) (w : World) (gs gw gd N Z : Nat) (vl vr : Value) (h p q : Nat) (l : List Pr) : Prop where
  wl : Wl B w gw gd N Z vl (.slice none 0 0) (.slice none 0 0) false 0 h p []
  blk : w.heap[gs]? = some (.cells #[.pointer (some ⟨gw, 0, none⟩), .int .i64 (q : Int), vr] 121 (0, 0))
  g0 : B ≤ gs
  row : w.ownsRow B 96 2 vr l.length (flatP l)
  srt : Sorted (keys l)
def KvS (gs gw gd : Nat) (vl vr : Value) (k : Nat) : Prop := WlS gw gd vl (.slice none 0 0) (.slice none 0 0) k ∨ k = gs ∨ vr.ownBlock = some k
section
variable {B : Nat} {w w' : World} {gs gw gd N Z h p q : Nat} {vl vr : Value} {l : List Pr}
theorem Wl.notS {vc vw : Value} {full : Bool} {n : Nat} {ws : List ByteArray} (H : Wl B w gw gd N Z vl vc vw full n h p ws) {g t : Nat} {cs : Array Value} (hb : w.heap[g]? = some (.cells cs t (0, 0))) (t1 : t ≠ 173) (t2 : t ≠ 9) (t3 : t ≠ 229) (t4 : t ≠ 183) : ¬ WlS gw gd vl vc vw g := by
  rintro (e | e | e)
  · exact H.dk.out hb t1 t2 t3 e
  · have := H.blk
    rw [← e, hb] at this
    injection this with e1
    injection e1 with _ e2
    exact t4 e2
  · exact rowE_ne H.wait hb (fun e => t2 e.symm) e
theorem Kv.lt (H : Kv B w gs gw gd N Z vl vr h p q l) : gs < w.heap.size := (Array.getElem?_eq_some_iff.1 H.blk).1
theorem Kv.turn {S : Nat → Prop} (H : Kv B w gs gw gd N Z vl vr h p q l) (hk : Turn w w' S) (hS : ∀ k, KvS gs gw gd vl vr k → ¬ S k) : Kv B w' gs gw gd N Z vl vr h p q l :=
  ⟨H.wl.turn hk (fun k e => hS k (.inl e)), (hk.block H.lt (hS _ (.inr (.inl rfl)))).trans H.blk, H.g0, rowE_turn H.row hk (fun k e => hS k (.inr (.inr e))), H.srt⟩
theorem Kv.ofBelow (H : Kv B w gs gw gd N Z vl vr h p q l) (hb : Below w.heap.size w w') : Kv B w' gs gw gd N Z vl vr h p q l := H.turn (Turn.of_below hb (fun _ => False)) (fun _ _ => id)
theorem Kv.geB (H : Kv B w gs gw gd N Z vl vr h p q l) : ∀ k, KvS gs gw gd vl vr k → B ≤ k := by
  rintro k (e | e | e)
  · exact H.wl.geB k e
  · rw [e]; exact H.g0
  · exact (H.row.lt k e).1
theorem Kv.ltS (H : Kv B w gs gw gd N Z vl vr h p q l) : ∀ k, KvS gs gw gd vl vr k → k < w.heap.size := by
  rintro k (e | e | e)
  · exact H.wl.ltS k e
  · rw [e]; exact H.lt
  · exact (H.row.lt k e).2
theorem Kv.gs_out (H : Kv B w gs gw gd N Z vl vr h p q l) : ¬ WlS gw gd vl (.slice none 0 0) (.slice none 0 0) gs := H.wl.notS H.blk (by decide) (by decide) (by decide) (by decide)
theorem Kv.own_ne (H : Kv B w gs gw gd N Z vl vr h p q l) : ∀ k, vr.ownBlock = some k → k ≠ gs := fun k hk e => rowE_ne H.row H.blk (by decide) (e ▸ hk)
set_option maxRecDepth 100000 in
set_option maxHeartbeats 4000000 in
theorem kformat_any {n : Nat} {vc : Value} (H : Dk B w gd N Z vl vc false n) (hB : B ≤ w.heap.size) (hn : n < 100000) (hd : 4 ≤ N ∧ N ≤ 4096 ∧ 16 ≤ Z ∧ Z ≤ 256) (q : Nat) (hq : q < 2000000000) :
    Calls Tryz.prog 79 #[.pointer (some ⟨gd, 0, none⟩), .int .i64 (q : Int)] w fun e w' => ∃ gs gw, e = .returned (.tuple #[.pointer (some ⟨gs, 0, none⟩), .int .i64 0]) ∧ w.heap.size ≤ gs ∧ Kv B w' gs gw gd N Z vl (.slice none 0 0) 0 0 q [] ∧ Turn w w' (DkS gd vl vc) := by
  have q0 : ¬ (q : Int) < 0 := by omega
  go_enter Tryz.func79, Tryz.ntmps79
  go_wp2_with (go_at_call 121; (with_reducible refine (format_any H hB hn hd).mono ?_); rintro e w1 ⟨gw, rfl, hgw, hW, hT⟩)
  go_ret2
  have hs := hT.size
  have hW2 := hW.ofBelow (below_alloc (Below.refl _ _) (.cells #[.pointer (some ⟨gw, 0, none⟩), .int .i64 (q : Int), .slice none 0 0] 121 (0, 0)))
  exact ⟨w1.heap.size, gw, rfl, hs, ⟨hW2, heap_alloc_new w1 _, by omega, ⟨rfl, .inl ⟨rfl, rfl⟩⟩, sorted_nil⟩, hT.alloc _⟩
set_option maxRecDepth 100000 in
set_option maxHeartbeats 4000000 in
theorem klen_any (H : Kv B w gs gw gd N Z vl vr h p q l) : Calls Tryz.prog 40 #[.pointer (some ⟨gs, 0, none⟩)] w fun e w' => e = .returned (.int .i64 (l.length : Int)) ∧ w' = w := by
  obtain ⟨a, c, rfl, _⟩ := sliceE_of H.row
  have c2 : w.cell? ⟨gs, 2, none⟩ = some (.slice a l.length c) := blk_cell H.blk 2
  go_enter Tryz.func40, Tryz.ntmps40
  go_wp2_with (fail)
  go_ret
  exact ⟨rfl, rfl⟩
/-- What pairs say of a key. -/
def getP (l : List Pr) (key : ByteArray) : Option ByteArray := if thereP l key then (l[place (keys l) key]?).map (·.val) else none
set_option maxRecDepth 100000 in
set_option maxHeartbeats 4000000 in
theorem kget_any (H : Kv B w gs gw gd N Z vl vr h p q l) (hl : l.length < 1000000) (key : ByteArray) : Calls Tryz.prog 49 #[.pointer (some ⟨gs, 0, none⟩), .string key] w fun e w' => e = .returned (.tuple #[.string ((getP l key).getD ⟨#[]⟩), .bool (getP l key).isSome]) ∧ Below w.heap.size w w' := by
  obtain ⟨a, c, rfl, _⟩ := sliceE_of H.row
  have c2 : w.cell? ⟨gs, 2, none⟩ = some (.slice a l.length c) := blk_cell H.blk 2
  have hplace := place_any H.row H.srt hl key
  cases ht : thereP l key with
  | true =>
    have hp2 := thereP_lt ht
    have hck := thereP_key ht
    have hv : getP l key = some l[place (keys l) key].val := by rw [getP, if_pos ht, List.getElem?_eq_getElem hp2]; rfl
    obtain ⟨p, hpl2, hck2, hpe, hv2⟩ : ∃ p, ∃ h : p < l.length, l[p].key = key ∧ place (keys l) key = p ∧ getP l key = some l[p].val := ⟨_, hp2, hck, rfl, hv⟩
    rw [hpe] at hplace
    rw [hv2]
    obtain ⟨g, cur, rfl, hBg, hg0, hcur, hc⟩ := rowE_at H.row (by omega)
    have y0 := hc (p * 2) (.string l[p].key) (by rw [← Nat.add_zero (p * 2), flatP, flat_get cellsP 2 cellsP_len l p 0 hpl2 (by decide)]; rfl)
    have y1 := hc (p * 2 + 1) (.string l[p].val) (by rw [flatP, flat_get cellsP 2 cellsP_len l p 1 hpl2 (by decide)]; rfl)
    rw [hck2] at y0
    have q0 : (0 : Int) ≤ (p : Int) := by omega
    have q1 : (p : Int) < (l.length : Int) := by omega
    clear hck hpe hp2 ht hv hc hcur hck2 hv2
    go_enter Tryz.func49, Tryz.ntmps49
    go_wp2_with (go_at_call 67; (with_reducible refine hplace.mono ?_); rintro e w1 ⟨rfl, rfl⟩)
    go_ret2
    exact ⟨rfl, Below.refl _ _⟩
  | false =>
    have hv : getP l key = none := by rw [getP, if_neg (by simp [ht])]
    rw [hv]
    have hpl : place (keys l) key ≤ l.length := by have := place_le (keys l) key; rw [keys_len] at this; exact this
    have hnk : ∀ h : place (keys l) key < l.length, ¬ l[place (keys l) key].key = key := fun h e => by
      have h1 : ¬ (l.map (·.key))[place (keys l) key]? = some key := of_decide_eq_false ht
      rw [List.getElem?_map, List.getElem?_eq_getElem h] at h1
      exact h1 (by rw [Option.map_some, e])
    obtain ⟨p, hp⟩ : ∃ p, p = place (keys l) key := ⟨_, rfl⟩
    rw [← hp] at hplace hpl hnk
    clear hp ht hv
    by_cases hp2 : p < l.length
    · have hkk := hnk hp2
      have hkn : (l[p].key.toList == key.toList) = false := by
        simpa using fun e => hkk (bytes_ext e)
      obtain ⟨g, cur, rfl, hBg, hg0, hcur, hc⟩ := rowE_at H.row (by omega)
      have y0 := hc (p * 2) (.string l[p].key) (by rw [← Nat.add_zero (p * 2), flatP, flat_get cellsP 2 cellsP_len l p 0 hp2 (by decide)]; rfl)
      have q0 : (0 : Int) ≤ (p : Int) := by omega
      have q1 : (p : Int) < (l.length : Int) := by omega
      clear hc hcur hnk hkk
      go_enter Tryz.func49, Tryz.ntmps49
      go_wp2_with (go_at_call 67; (with_reducible refine hplace.mono ?_); rintro e w1 ⟨rfl, rfl⟩)
      go_ret2
      exact ⟨rfl, Below.refl _ _⟩
    · have i1 : ¬ (p : Int) < (l.length : Int) := by omega
      clear hnk
      go_enter Tryz.func49, Tryz.ntmps49
      go_wp2_with (go_at_call 67; (with_reducible refine hplace.mono ?_); rintro e w1 ⟨rfl, rfl⟩)
      go_ret2
      exact ⟨rfl, Below.refl _ _⟩
end
end Go.Proofs.YtpniccllpfonfaaGreatDoor.St
namespace Go.Proofs.YtpniccllpfonfaaGreatDoor.St
open Go Go.RowKit Go.Shelf Go.Proofs.YtpniccllpfonfaaGreatDoorW.PrintWords Go.Proofs.YtpniccllpfonfaaGreatDoor.Wd
attribute [local go_sem] Oper.semAt_some
def commitL (l : List Pr) (cs : List Ch) : List Pr := cs.foldl doneL l
theorem commitL_len (cs : List Ch) : ∀ l, (commitL l cs).length ≤ l.length + cs.length := by
  induction cs with
  | nil => intro l; simp [commitL]
  | cons c cs ih =>
    intro l
    have h1 := doneL_len l c
    have h2 := ih (doneL l c)
    simp only [commitL, List.foldl_cons, List.length_cons] at h2 ⊢
    omega
theorem commitL_sorted (cs : List Ch) : ∀ l, Sorted (keys l) → Sorted (keys (commitL l cs)) := by
  induction cs with
  | nil => intro l h; exact h
  | cons c cs ih => intro l h; exact ih _ (doneL_sorted h c)
theorem commitL_snoc (l : List Pr) (cs : List Ch) (c : Ch) : commitL l (cs ++ [c]) = doneL (commitL l cs) c := by simp [commitL]
theorem netL_ge (s : ByteArray) : s.size ≤ (netL s.data.toList).length := by
  have : s.data.toList.length = s.size := Array.length_toList
  simp [netL]
  omega
theorem rowL_ge : ∀ (ws : List ByteArray) (s : ByteArray), s ∈ ws → s.size ≤ (rowL ws).length
  | w :: ws, s, h => by
    have e : (rowL (w :: ws)).length = (netL w.data.toList).length + (rowL ws).length := by simp [rowL]
    rcases List.mem_cons.1 h with rfl | h
    · have := netL_ge s; omega
    · have := rowL_ge ws s h; omega
/-- What follows where nothing panics. -/
def onNormal (Q : Exit → Act → World → Prop) : Exit → Act → World → Prop
  | .normal, a, w => Q .normal a w
  | _, _, _ => False
theorem wpIn_onNormal {F : Fence} {n : Nat} {P : Program} {c : Code} {Q : Exit → Act → World → Prop} {a : Act} {w : World} (h : c.wpIn F n P (onNormal Q) a w) : c.wpIn F n P Q a w :=
  Go.Code.wpIn_mono (fun e a w h => by cases e <;> first | exact h | exact h.elim) h
/-- Changes that are put, whose texts are short. -/
abbrev PutC := { c : Ch // (c.key.size < 2000000 ∧ c.val.size < 2000000) ∧ c.gone = false }
theorem putC_list (l : List Ch) (h : ∀ c ∈ l, (c.key.size < 2000000 ∧ c.val.size < 2000000) ∧ c.gone = false) : ∃ lo : List PutC, lo.map (fun x => x.1) = l := by
  refine ⟨l.attach.map fun c => ⟨c.1, h c.1 c.2⟩, ?_⟩
  rw [List.map_map]
  exact List.attach_map_subtype_val l
theorem dkS_wlS {gw gd : Nat} {vl : Value} {k : Nat} (h : DkS gd vl (.slice none 0 0) k ∨ k = gw) : WlS gw gd vl (.slice none 0 0) (.slice none 0 0) k := by
  rcases h with h | h
  · exact .inl h
  · exact .inr (.inl h)
theorem commit_turn {W w3 w4 w6 w7 : World} {gw gd : Nat} {vl : Value} (b3 : Below W.heap.size W w3) (b4 : Below w3.heap.size w3 w4) (t6 : Turn w4 w6 (fun b => b = gw)) (t7 : Turn w6 w7 (fun k => DkS gd vl (.slice none 0 0) k ∨ k = gw)) : Turn W w7 (fun k => DkS gd vl (.slice none 0 0) k ∨ k = gw) :=
  ((((Turn.of_below b3 _).then_ (Turn.of_below b4 (fun _ => False)) (fun _ h => h.elim)).then_ t6 (fun _ hk => .inl (.inr hk))).then_ t7 (fun _ hk => .inl hk))
theorem turn_putObj (w : World) (D : Nat) (o : Obj) : Turn w (w.putObj D o) (fun k => k = D) := (Turn.refl w _).grown (grownBy_putObj' w D o) (fun k e => .inl (by cases e; rfl))
/-- While texts are appended. -/
def RCm (B : Nat) (w4 wr : World) (_gs gw gd N Z : Nat) (vl : Value) (h p : Nat) (ts : List ByteArray) (i : Value) : Prop :=
  ∃ (k : Nat) (vw : Value), k ≤ ts.length ∧ i = .int .i64 (k : Int) ∧ Wl B wr gw gd N Z vl (.slice none 0 0) vw false 0 h p (ts.take k) ∧ Turn w4 wr (fun b => b = gw) ∧ ∀ b, vw.ownBlock = some b → w4.heap.size ≤ b
section
variable {B : Nat} {w w' : World} {gs gw gd N Z h p q gb : Nat} {vl vr vb : Value} {l : List Pr} {cs : List Ch}
set_option maxRecDepth 100000 in
set_option maxHeartbeats 2000000 in
theorem commit_puts (H : Kv B w gs gw gd N Z vl vr h p q l) (Hb : Bt B w gb vb cs) (hB : B ≤ w.heap.size) (h0 : 0 < cs.length) (hput : ∀ c ∈ cs, (c.key.size < 2000000 ∧ c.val.size < 2000000) ∧ c.gone = false) (hl : l.length < 100000) (hu : usedL (commitL l cs) ≤ q) (hq : q < 2000000000) (hroom : p + 9 + (rowL (cs.map textC)).length + 1 ≤ half_ N * Z) :
    Calls Tryz.prog 46 #[.pointer (some ⟨gs, 0, none⟩), .pointer (some ⟨gb, 0, none⟩)] w fun e w' => ∃ v', e = .returned (.int .i64 0) ∧ Kv B w' gs gw gd N Z vl v' h (p + 9 + (rowL (cs.map textC)).length) q (commitL l cs) ∧ Turn w w' (KvS gs gw gd vl vr) ∧ (∀ k, v'.ownBlock = some k → w.heap.size ≤ k) := by
  obtain ⟨ar, cr, rfl, _⟩ := sliceE_of H.row
  obtain ⟨lo, hlo⟩ := putC_list cs hput
  have hso := commitL_sorted cs l H.srt
  have hcl := commitL_len cs l
  obtain ⟨L, hL⟩ : ∃ L, L = commitL l cs := ⟨_, rfl⟩
  rw [← hL] at hso hcl hu ⊢
  have HL := Lib.hid hL
  clear hL
  have hsz := fun c hc => (hput c hc).1
  clear hput
  have c2 : w.cell? ⟨gs, 2, none⟩ = some (.slice ar l.length cr) := blk_cell H.blk 2
  have z0 : ¬ (cs.length : Int) = 0 := by omega
  have hfew := Hb.few
  refine (callsIn_wide (n := 4)).1 ?_
  refine callsIn_of_wp_marks Tryz.func46 rfl trivial ?_ rfl
  simp only [Tryz.ntmps46, List.size_toArray, List.length_cons, List.length_nil, Nat.reduceAdd, Nat.reduceSub, Array.replicate_succ, Array.replicate_zero, List.push_toArray, List.append_toArray, List.nil_append, List.cons_append]
  gi_wp2_with (first
    | (refine ⟨trivial, ?_⟩; gi_at_call 69; refine (callsIn_wide.2 (blen_any Hb)).mono ?_; rintro e w9 ⟨rfl, hw9⟩; have hw8 := hw9.symm; clear hw9; subst hw8)
    | (refine ⟨trivial, ?_⟩; gi_at_call 83; refine (callsIn_wide.2 (pclone_any H.row (by omega) (flat_one cellsP cellsP_one l))).mono ?_; rintro e w1 ⟨v1, rfl, r1, b1⟩; obtain ⟨a1, c1, rfl, _⟩ := sliceE_of r1)
    | (refine ⟨trivial, ?_⟩; gi_at_call 50; refine (callsIn_wide.2 (ball_any gb _)).mono ?_; rintro e w2 ⟨rfl, rfl⟩))
  have bS := (Boxed.new w1 33 (.slice a1 l.length c1)).alloc (.cells #[.pointer (some ⟨gb, 0, none⟩)] 86)
  have bA := Boxed.new (w1.alloc (.cells #[.slice a1 l.length c1] 33)) 86 (.pointer (some ⟨gb, 0, none⟩))
  have hB0 : Below w.heap.size w ((w1.alloc (.cells #[.slice a1 l.length c1] 33)).alloc (.cells #[.pointer (some ⟨gb, 0, none⟩)] 86)) := below_alloc (below_alloc b1 _) _
  have hsz0 : ((w1.alloc (.cells #[.slice a1 l.length c1] 33)).alloc (.cells #[.pointer (some ⟨gb, 0, none⟩)] 86)).heap.size = w1.heap.size + 2 := by simp
  have r0 := (r1.alloc (.cells #[.slice a1 l.length c1] 33)).alloc (.cells #[.pointer (some ⟨gb, 0, none⟩)] 86)
  have s1 := b1.size
  simp only [World.size_alloc] at bA
  obtain ⟨bn, hbn⟩ : ∃ bn, bn = w1.heap.size := ⟨_, rfl⟩
  obtain ⟨W0, hW0⟩ : ∃ W0, (w1.alloc (.cells #[.slice a1 l.length c1] 33)).alloc (.cells #[.pointer (some ⟨gb, 0, none⟩)] 86) = W0 := ⟨_, rfl⟩
  rw [hW0] at bS bA hB0 hsz0 r0 ⊢
  rw [← hbn] at bS bA hsz0 s1 ⊢
  clear hW0 b1 r1 hbn
  have hlen : lo.length = cs.length := by rw [← hlo, List.length_map]
  refine wpIn_rangeFunc_ownH rfl (by decide) (gf := 92) (lb := #[.pointer (some ⟨bn + 1, 0, none⟩)]) rfl trivial (enters_of Tryz.func92 (by kernel_rfl) rfl)
    (all_stops (fun x : PutC => x.1) lo hlo (4 - 1) (bn + 1) w.heap.size (by omega) (by omega) bA.cell (Hb.ofBelow hB0) Hb.ltS) belowK_t (belowK_b (by omega)) (Below.refl _ _) (fun _ => rfl)
    (fun (pre : List PutC) W => (∃ v, Boxed W bn 33 v ∧ W.ownsRow w.heap.size 96 2 v (commitL l (pre.map (fun x => x.1))).length (flatP (commitL l (pre.map (fun x => x.1)))) ∧ True) ∧ Below w.heap.size w W)
    (fun _ _ _ => False)
    (OwnFrom.and (Own.from (holdsRow_own w.heap.size bn 33 96 2 (fun pre : List PutC => (commitL l (pre.map (fun x => x.1))).length) (fun pre : List PutC => flatP (commitL l (pre.map (fun x => x.1)))) (fun _ _ => True)) _) (ownFrom_below (Nat.le_refl _) (by omega)))
    (fun _ _ _ _ _ hs _ _ => hs)
    ⟨⟨_, bS, r0, trivial⟩, hB0⟩
    (fun (x : PutC) a' W => ∃ Bx, bn < Bx ∧ W.heap[Bx]? = some (.cells #[.string x.1.key, .string x.1.val, .bool x.1.gone] 93 (0, 0)) ∧ a' = { tmps := #[.pointer (some ⟨gs, 0, none⟩), .pointer (some ⟨gb, 0, none⟩), undef, undef, .int .i64 0, .pointer (some ⟨bn, 0, none⟩), .pointer (some ⟨Bx, 0, none⟩), undef, undef, undef, .pointer (some ⟨gb, 0, none⟩), .int .i64 (cs.length : Int), .bool false, .pointer (some ⟨gs, 0, none⟩), .pointer (some ⟨gs, 0, none⟩), .pointer (some ⟨gs, 2, none⟩), .slice ar l.length cr, .slice a1 l.length c1, .pointer (some ⟨gb, 0, none⟩), .func (.func 92) #[] #[.pointer (some ⟨bn + 1, 0, none⟩)], .agg #[.string x.1.key, .string x.1.val, .bool x.1.gone], undef, undef, undef, undef, undef, undef, undef, undef, undef, undef, undef, undef, undef, undef, undef, undef, undef, undef, undef, undef, undef, undef, undef, undef, undef, undef, undef, undef, undef, undef, undef, undef, undef, undef, undef, undef, undef, undef, undef, undef, undef, undef, undef, undef, undef], defers := [] })
    (fun x a' _ X Y row hs hg hr => by
      obtain ⟨Bx, h1, h2, h3⟩ := hs
      refine ⟨Bx, h1, (hg.block Bx (Array.getElem?_eq_some_iff.1 h2).1 (fun e => ?_)).trans h2, h3⟩
      obtain ⟨_, o, ho, hc⟩ := hr Bx e.symm
      rw [h2] at ho
      obtain rfl := Option.some.inj ho
      cases hc)
    ?assign ?body ?done ?stop
  case assign =>
    rintro l0 pre x W K ⟨⟨v, bS1, hrow, _⟩, hB1⟩ hK
    gi_wp2
    exact hK _ _ ((KeepsOthers.alloc _ _).from _) (below_alloc' hB1.size _) ⟨⟨v, bS1.alloc _, hrow.alloc _, trivial⟩, hB1.alloc hB1.size _⟩ ⟨W.heap.size, bS1.lt, heap_alloc_new W _, rfl⟩
  case body =>
    rintro l0 pre x a' W hl0 ⟨r, hr⟩ ⟨⟨v, bS1, hrow, _⟩, hB1⟩ ⟨Bx, hBx, bX, rfl⟩ hlt
    clear hcl hso hu HL
    have hcl := commitL_len (pre.map (fun x => x.1)) l
    rw [List.length_map] at hcl
    have hso := commitL_sorted (pre.map (fun x => x.1)) l H.srt
    have hsn : commitL l ((pre ++ [x]).map (fun x => x.1)) = doneL (commitL l (pre.map (fun x => x.1))) x.1 := by rw [List.map_append]; exact commitL_snoc _ _ _
    obtain ⟨L, hL⟩ : ∃ L, L = commitL l (pre.map (fun x => x.1)) := ⟨_, rfl⟩
    rw [← hL] at hrow hcl hso hsn
    clear hL
    obtain ⟨a, cc, rfl, _⟩ := sliceE_of hrow
    have cS := bS1.cell
    have x0 := (blk_cell bX 0).trans rfl
    have x1 := (blk_cell bX 1).trans rfl
    have x2 := (blk_cell bX 2).trans rfl
    simp only [List.getElem?_toArray] at x0 x1 x2
    have hsW := hB1.size
    have hxg := Lib.hid x.2.2
    have hbnl := bS1.lt
    gi_wp2_with (refine ⟨trivial, ?_⟩; gi_at_call 84; refine (CallsIn.inRound l0 (callsIn_wide.2 (pdone_put hrow hso (by omega) hsW x.1 hxg.out))).mono ?_; rintro e w2 ⟨v3, rfl, r3, t3, g3⟩; obtain ⟨a3, c3, rfl, _⟩ := sliceE_of r3; have e3 : w2.heap[bn]? = some (.cells #[.slice a L.length cc] 33 (0, 0)) := (t3.block hbnl (fun e => rowE_ne hrow bS1 (by decide) e)).trans bS1; have e4 : w2.cell? ⟨bn, 0, none⟩ = some (.slice a L.length cc) := blk_cell e3 0; have e5 := blk_frozen e3 0)
    have tw : Turn W (w2.setCell ⟨bn, 0, none⟩ (.slice a3 (doneL L x.1).length c3)) (fun k => k = bn ∨ (Value.slice a L.length cc).ownBlock = some k) :=
      (t3.mono (fun k hk => .inr hk)).setCell (p := ⟨bn, 0, none⟩) (.inl (.inl rfl)) _
    have n1 : (w2.setCell ⟨bn, 0, none⟩ (.slice a3 (doneL L x.1).length c3)).heap[bn]? = some (.cells #[.slice a3 (doneL L x.1).length c3] 33 (0, 0)) := by
      have := blk_set e3 0 (.slice a3 (doneL L x.1).length c3)
      simpa using this
    have hge : ∀ k, (k = bn ∨ (Value.slice a L.length cc).ownBlock = some k) → w.heap.size ≤ k := fun k hk => by
      rcases hk with e | e
      · omega
      · exact (hrow.lt k e).1
    have hbl := tw.below (Below.refl w.heap.size W) hsW hge
    refine ⟨keepsFrom_of_turn tw (fun k o hk ho => ?_), hbl, ⟨_, n1, ?_, trivial⟩, hB1.trans hbl⟩
    · rcases hk with e | e
      · subst e
        rw [show W.heap[k]? = _ from bS1] at ho
        obtain rfl := Option.some.inj ho
        rfl
      · exact row_cells_of hrow k e ho
    · rw [hsn]
      exact rowE_of r3 fun k hk => Below.heap_setCell w2 ⟨bn, 0, none⟩ _ k (fun e => rowE_ne r3 e3 (by decide) (by rw [← show k = bn from e]; exact hk))
  case done =>
    rintro D zs W hD hzs ⟨⟨v, bS1, hrow, _⟩, hB1⟩ hK
    rw [hzs, hlo] at hrow
    clear hzs
    have cS := bS1.cell
    rw [← HL.out] at hrow
    obtain ⟨a, cc, rfl, _⟩ := sliceE_of hrow
    have K1 := H.ofBelow hB1
    have d1 : W.cell? ⟨gs, 1, none⟩ = some (.int .i64 (q : Int)) := blk_cell K1.blk 1
    have hgt : ¬ (q : Int) < (usedL L : Int) := by omega
    have mixed : Tryz.prog.follows Departure.mixedOrders = true := by kernel_rfl
    gi_wp2
    refine wpIn_onNormal ?_
    gi_region_with_o (first
      | (refine ⟨trivial, ?_⟩; gi_at_call 85; refine (callsIn_wide.2 (used_any (rowE_below hrow ?hb1) (by omega) (by omega))).mono ?_; (case hb1 => (repeat (with_reducible first | exact Below.refl _ _ | apply below_alloc | apply pw_below_drewN | apply below_drew1))); rintro e w3 ⟨rfl, hb3⟩; have b3 : Below W.heap.size W w3 := (by refine Below.trans ?_ hb3; exact ⟨rfl, rfl, rfl, Nat.le_refl _, fun _ _ => rfl⟩); have e1 : w3.cell? ⟨gs, 1, none⟩ = some (.int .i64 (q : Int)) := blk_cell (K1.ofBelow b3).blk 1)
      | fail)
    all_goals simp only [onNormal]
    all_goals
      have b03 : Below w.heap.size w w3 := hB1.trans (b3.mono hB1.size)
      gi_wp2_with (refine ⟨trivial, ?_⟩; gi_at_call 86; refine (callsIn_wide.2 (btexts_any (Hb.ofBelow b03) hsz)).mono ?_; rintro e w4 ⟨v4, rfl, r4, b4⟩; obtain ⟨a4, c4, rfl, _⟩ := sliceE_of r4)
      have b04 : Below w.heap.size w w4 := b03.trans (b4.mono b03.size)
      have K4 := H.ofBelow b04
      have s4 := b04.size
      have hS4 : ∀ k, KvS gs gw gd vl (.slice ar l.length cr) k → k < w.heap.size := H.ltS
      obtain ⟨ts, hts⟩ : ∃ ts, ts = cs.map textC := ⟨_, rfl⟩
      have htl : ts.length = cs.length := by rw [hts, List.length_map]
      have R4 : w4.ownsRow w3.heap.size 9 1 (.slice a4 cs.length c4) cs.length (strs ts) := by rw [hts]; exact r4
      have hrm : p + 9 + (rowL ts).length + 1 ≤ half_ N * Z := by rw [hts]; exact hroom
      have HTS := Lib.hid hts
      clear r4 hts
      gi_loopw [34] (fun i wr => RCm B w4 wr gs gw gd N Z vl h p ts i) (fun i _ => ts.length - (intOf i).toNat)
      case atStart => exact ⟨0, .slice none 0 0, Nat.zero_le _, rfl, K4.wl, Turn.refl _ _, fun k hk => by simp [Value.ownBlock] at hk⟩
      case round =>
        obtain ⟨k, vw, hk, rfl, hW, hT, hvw⟩ := hrel
        have d0 : wr.cell? ⟨gs, 0, none⟩ = some (.pointer (some ⟨gw, 0, none⟩)) := by
          have := (hT.block K4.lt (fun e => K4.gs_out (.inr (.inl e)))).trans K4.blk
          exact blk_cell this 0
        have hTs := hT.size
        by_cases hlt : k < ts.length
        · have hkc : k < cs.length := by omega
          have R4r := rowE_turn R4 hT (fun b e e2 => rowE_ne R4 K4.wl.blk (by decide) (e2 ▸ e))
          obtain ⟨g4, cur4, rfl, _, _, _, hx4⟩ := rowE_at R4r (by omega)
          have x0 : wr.cell? ⟨g4, k, none⟩ = some (.string ts[k]) := hx4 k _ (by simp [strs, List.getElem?_map, List.getElem?_eq_getElem hlt])
          have k0 : (0 : Int) ≤ (k : Int) := by omega
          have k1 : (k : Int) < (cs.length : Int) := by omega
          have htk : ts.take (k + 1) = ts.take k ++ [ts[k]] := by rw [List.take_add_one, List.getElem?_eq_getElem hlt]; rfl
          have HTK := Lib.hid htk
          have hBr : B ≤ wr.heap.size := by omega
          have hln : (ts.take k).length < 1000000 := by rw [List.length_take]; omega
          clear hx4 htk
          gi_wp2_with (refine ⟨trivial, ?_⟩; gi_at_call 87; refine (callsIn_wide.2 (append_any hW hBr hln ts[k])).mono ?_; rintro e w6 ⟨vw6, rfl, h6, t6, g6⟩)
          go_roundw
          case rel =>
            refine ⟨k + 1, vw6, hlt, by simp, by rw [HTK.out]; exact h6, hT.then_ t6 (fun b hb => ?_), fun b hb => ?_⟩
            · rcases hb with e | e
              · exact .inl e
              · exact .inr (hvw b e)
            · rcases g6 b hb with e | e
              · exact hvw b e
              · omega
          case measure => simp [intOf]; omega
        · obtain rfl : k = ts.length := by omega
          have k1 : ¬ (ts.length : Int) < (cs.length : Int) := by omega
          rw [List.take_length] at hW
          have hBr : B ≤ wr.heap.size := by omega
          have hs0 : 0 < ts.length := by omega
          have hs1 : ts.length < 1000000 := by omega
          have hcap := cap_le N Z H.wl.dim.2.1 H.wl.dim.2.2.2
          have hs2 : ∀ s ∈ ts, s.size ≤ 600000 := fun s hs => by have := rowL_ge ts s hs; omega
          gi_wp2_with (refine ⟨trivial, ?_⟩; gi_at_call 88; refine (callsIn_wide.2 (sync_any hW hBr (by omega) hs0 hs1 hs2 (by omega) hrm)).mono ?_; rintro e w7 ⟨rfl, h7, t7⟩; have T7 := commit_turn b3 b4 hT t7; have m7 : w7.heap[bn]? = some (.cells #[.slice a L.length cc] 33 (0, 0)) := (T7.block bS1.lt (fun e => absurd (hS4 bn (.inl (dkS_wlS e))) (by omega))).trans bS1; have m8 : w7.heap[gs]? = some (.cells #[.pointer (some ⟨gw, 0, none⟩), .int .i64 (q : Int), .slice ar l.length cr] 121 (0, 0)) := (T7.block K1.lt (fun e => K1.gs_out (dkS_wlS e))).trans K1.blk; have m9 : w7.cell? ⟨bn, 0, none⟩ = some (.slice a L.length cc) := blk_cell m7 0; have m10 : w7.cell? ⟨gs, 2, none⟩ = some (.slice ar l.length cr) := blk_cell m8 2; have m11 : w7.frozen? ⟨gs, 2, none⟩ = false := blk_frozen m8 2)
          have hD8 : w7.heap[D]? = some (.deferred (some [])) := (T7.block (Array.getElem?_eq_some_iff.1 hK).1 (fun e => absurd (hS4 D (.inl (dkS_wlS e))) (by omega))).trans hK
          have hgs := K1.lt
          have hgs2 := hS4 gs (.inr (.inl rfl))
          have hDg : D ≠ gs := by omega
          have t8 := ((Turn.refl w7 (fun b => b = gs ∨ b = D)).setCell (p := ⟨gs, 2, none⟩) (.inl (.inl rfl)) (.slice a L.length cc)).then_ (turn_putObj _ D (.deferred none)) (fun k hk => .inl (.inr hk))
          have hD9 : (w7.setCell ⟨gs, 2, none⟩ (.slice a L.length cc)).heap[D]? = some (.deferred (some [])) := (Below.heap_setCell w7 ⟨gs, 2, none⟩ _ D hDg).trans hD8
          refine ⟨by simp, .inl ⟨_, _, rfl, run_takeDeferred hD9, ?_⟩⟩
          have hrD : ∀ b, (Value.slice a L.length cc).ownBlock = some b → b ≠ D := fun b e e2 => by
            have := row_cells_of hrow b e (e2 ▸ hK)
            cases this
          have hrge : ∀ b, (Value.slice a L.length cc).ownBlock = some b → w.heap.size ≤ b := fun b e => (hrow.lt b e).1
          refine ⟨_, results_tmp rfl _ _ _, .slice a L.length cc, rfl, ⟨?_, ?_, H.g0, ?_, hso⟩, ?_, hrge⟩
          · rw [← HTS.out]
            exact h7.turn t8 (fun k hk hk2 => by
              rcases hk2 with e | e
              · exact H.gs_out (e ▸ hk)
              · have := hS4 k (.inl hk)
                omega)
          · have m12 := blk_set m8 2 (.slice a L.length cc)
            refine ((turn_putObj _ D (.deferred none)).block (by simp; exact (Array.getElem?_eq_some_iff.1 m8).1) (fun e => hDg e.symm)).trans ?_
            simpa using m12
          · exact rowE_base (rowE_turn (rowE_turn hrow T7 (fun b e e2 => absurd (hS4 b (.inl (dkS_wlS e2))) (by have := hrge b e; omega))) t8 (fun b e e2 => by
              rcases e2 with e3 | e3
              · have := hrge b e; omega
              · exact hrD b e e3)) hB
          · refine ((Turn.of_below hB1 _).then_ T7 (fun k hk => .inl (.inl (dkS_wlS hk)))).then_ t8 (fun k hk => ?_)
            rcases hk with e | e
            · exact .inl (.inr (.inl e))
            · exact .inr (by omega)
  case stop =>
    rintro D c pre W _ _ h _
    exact h.elim
end
end Go.Proofs.YtpniccllpfonfaaGreatDoor.St
namespace Go.Proofs.YtpniccllpfonfaaGreatDoor.St
open Go Go.RowKit Go.Proofs.YtpniccllpfonfaaGreatDoorW.PrintWords Go.Proofs.YtpniccllpfonfaaGreatDoor.Wd Go.Proofs.YtpniccllpfonfaaGreatDoor.Q
def TyIn (w : World) (ts : List Nat) (k : Nat) : Prop := ∃ cs t, w.heap[k]? = some (.cells cs t (0, 0)) ∧ t ∈ ts
theorem TyIn.ne {w : World} {a b : List Nat} {k : Nat} (h : TyIn w a k) (h' : TyIn w b k) (hd : ∀ t ∈ a, t ∉ b) : False := by
  obtain ⟨cs, t, e1, e2⟩ := h
  obtain ⟨cs', t', e3, e4⟩ := h'
  rw [e1] at e3
  injection e3 with e3
  injection e3 with _ e5
  exact hd t e2 (e5 ▸ e4)
theorem row_ty {w : World} {B e z n k : Nat} {v : Value} {xs : List Value} (h : w.ownsRow B e z v n xs) (hk : v.ownBlock = some k) : TyIn w [e] k := by
  rcases h.2 with ⟨h1, _⟩ | ⟨g, cap, cur, h1, _, h4, _⟩
  · rw [h1] at hk; cases hk
  · rw [h1] at hk
    have e1 : g = k := Option.some.inj hk
    subst e1
    exact ⟨cur, e, h4, by simp⟩
theorem TyIn.mono {w : World} {a b : List Nat} {k : Nat} (h : TyIn w a k) (hs : ∀ t ∈ a, t ∈ b) : TyIn w b k := by
  obtain ⟨cs, t, e1, e2⟩ := h
  exact ⟨cs, t, e1, hs t e2⟩
def kvTys : List Nat := [173, 9, 229, 183, 121, 96]
def btTys : List Nat := [138, 93]
section
variable {B : Nat} {w w' : World} {gs gw gd N Z h p q gb : Nat} {vl vr vb : Value} {l : List Pr} {cs : List Ch}
theorem Kv.ty (H : Kv B w gs gw gd N Z vl vr h p q l) : ∀ k, KvS gs gw gd vl vr k → TyIn w kvTys k := by
  obtain ⟨ops, hb⟩ := H.wl.dk.blk
  obtain ⟨ss, a1, a2, a3⟩ := H.wl.dk.row
  rintro k (e | e | e)
  · rcases e with e | e | e
    · rcases e with e | e | e
      · rw [e]; exact ⟨_, _, hb, by decide⟩
      · exact (row_ty a3 e).mono (by decide)
      · simp [Value.ownBlock] at e
    · rw [e]; exact ⟨_, _, H.wl.blk, by decide⟩
    · simp [Value.ownBlock] at e
  · rw [e]; exact ⟨_, _, H.blk, by decide⟩
  · exact (row_ty H.row e).mono (by decide)
theorem Bt.ty (H : Bt B w gb vb cs) : ∀ k, BtS gb vb k → TyIn w btTys k := by
  rintro k (e | e)
  · rw [e]; exact ⟨_, _, H.blk, by decide⟩
  · exact (row_ty H.row e).mono (by decide)
end
/-- A transaction at block gt over a store and a batch; below w0 all is as it was there. -/
structure TxI (w0 w : World) (gt gs gw gd gb N Z : Nat) (vl vr vb : Value) (h p q : Nat) (l : List Pr) (cs : List Ch) (e : Int) : Prop where
  low : Below w0.heap.size w0 w
  kv : Kv w0.heap.size w gs gw gd N Z vl vr h p q l
  bt : Bt w0.heap.size w gb vb cs
  blk : w.heap[gt]? = some (.cells #[.pointer (some ⟨gs, 0, none⟩), .pointer (some ⟨gb, 0, none⟩), .int .i64 e] 89 (0, 0))
  g0 : w0.heap.size ≤ gt
  fit : ∀ c ∈ cs, fitsC c = 0
def TxS (gt gb : Nat) (vb : Value) (k : Nat) : Prop := k = gt ∨ BtS gb vb k
/-- What is seen of a key. -/
def see (cs : List Ch) (l : List Pr) (key : ByteArray) : ByteArray × Bool :=
  match getC cs key with
  | some c => (c.val, !c.gone)
  | none => ((getP l key).getD ⟨#[]⟩, (getP l key).isSome)
theorem chg_fit {cs : List Ch} (hf : ∀ c ∈ cs, fitsC c = 0) (c : Ch) : ∀ x ∈ (chg cs c).2, fitsC x = 0 := by
  unfold chg
  split
  · exact hf
  · rename_i h0
    have h1 : fitsC c = 0 := Classical.not_not.1 h0
    split
    · intro x hx
      rcases List.mem_or_eq_of_mem_set hx with h | rfl
      · exact hf x h
      · exact h1
    · split
      · exact hf
      · intro x hx
        simp only [insAt, List.mem_append, List.mem_cons] at hx
        rcases hx with h | rfl | h
        · exact hf x (List.mem_of_mem_take h)
        · exact h1
        · exact hf x (List.mem_of_mem_drop h)
section
variable {w0 w w' : World} {gt gs gw gd gb N Z h p q : Nat} {vl vr vb : Value} {l : List Pr} {cs : List Ch} {e : Int}
theorem TxI.lt (X : TxI w0 w gt gs gw gd gb N Z vl vr vb h p q l cs e) : gt < w.heap.size := (Array.getElem?_eq_some_iff.1 X.blk).1
theorem TxI.tyT (X : TxI w0 w gt gs gw gd gb N Z vl vr vb h p q l cs e) : TyIn w [89] gt := ⟨_, _, X.blk, by simp⟩
theorem TxI.ofBelow (X : TxI w0 w gt gs gw gd gb N Z vl vr vb h p q l cs e) (hb : Below w.heap.size w w') : TxI w0 w' gt gs gw gd gb N Z vl vr vb h p q l cs e :=
  ⟨X.low.trans (hb.mono X.low.size), X.kv.ofBelow hb, X.bt.ofBelow hb, (hb.block gt X.lt).trans X.blk, X.g0, X.fit⟩
theorem TxI.amb (X : TxI w0 w gt gs gw gd gb N Z vl vr vb h p q l cs e) (hA : Amb w0) : Amb w := hA.at X.low
theorem TxI.kvOut (X : TxI w0 w gt gs gw gd gb N Z vl vr vb h p q l cs e) : ∀ k, KvS gs gw gd vl vr k → ¬ TxS gt gb vb k := fun k hk hT => by
  rcases hT with e | e
  · exact (X.kv.ty k hk).ne (e ▸ X.tyT) (by decide)
  · exact (X.kv.ty k hk).ne (X.bt.ty k e) (by decide)
theorem TxI.gtOut (X : TxI w0 w gt gs gw gd gb N Z vl vr vb h p q l cs e) : ¬ BtS gb vb gt := fun h => (X.bt.ty _ h).ne X.tyT (by decide)
theorem TxI.geB (X : TxI w0 w gt gs gw gd gb N Z vl vr vb h p q l cs e) : ∀ k, TxS gt gb vb k → w0.heap.size ≤ k := by
  rintro k (e | e)
  · rw [e]; exact X.g0
  · exact X.bt.geB k e
theorem below_drawn {B n : Nat} {w0 w : World} (h : Below B w0 w) : Below B w0 (w.drewN n) := pw_below_drewN h n
theorem TxI.afterPut {vb' : Value} {cs' : List Ch} (X : TxI w0 w gt gs gw gd gb N Z vl vr vb h p q l cs e) (hb : Bt w0.heap.size w' gb vb' cs') (ht : Turn w w' (BtS gb vb)) (hf : ∀ c ∈ cs', fitsC c = 0) : TxI w0 w' gt gs gw gd gb N Z vl vr vb' h p q l cs' e :=
  ⟨ht.below X.low X.low.size X.bt.geB, X.kv.turn ht (fun k hk hk2 => X.kvOut k hk (.inr hk2)), hb, (ht.block X.lt X.gtOut).trans X.blk, X.g0, hf⟩
set_option maxRecDepth 100000 in
set_option maxHeartbeats 4000000 in
theorem begin_any (hlow : Below w0.heap.size w0 w) (H : Kv w0.heap.size w gs gw gd N Z vl vr h p q l) : Calls Tryz.prog 11 #[.pointer (some ⟨gs, 0, none⟩)] w fun e w' => ∃ gt gb, e = .returned (.pointer (some ⟨gt, 0, none⟩)) ∧ TxI w0 w' gt gs gw gd gb N Z vl vr (.slice none 0 0) h p q l [] 0 ∧ Below w.heap.size w w' := by
  go_enter Tryz.func11, Tryz.ntmps11
  go_wp2_with (go_at_call 42; (with_reducible refine (bnew_any (B := w0.heap.size) hlow.size).mono ?_); rintro e w1 ⟨rfl, hb1, b1⟩)
  go_ret
  have s1 := b1.size
  have b2 := below_alloc b1 (.cells #[.pointer (some ⟨gs, 0, none⟩), .pointer (some ⟨w.heap.size, 0, none⟩), .int .i64 0] 89)
  have hs := hlow.size
  exact ⟨w1.heap.size, w.heap.size, rfl, ⟨hlow.trans (b2.mono hs), H.ofBelow b2, hb1.ofBelow (below_alloc (Below.refl _ _) _), heap_alloc_new w1 _, by omega, fun c hc => by cases hc⟩, b2⟩
set_option maxRecDepth 100000 in
set_option maxHeartbeats 4000000 in
theorem tget_any (X : TxI w0 w gt gs gw gd gb N Z vl vr vb h p q l cs e) (hl : l.length < 1000000) (key : ByteArray) : Calls Tryz.prog 14 #[.pointer (some ⟨gt, 0, none⟩), .string key] w fun e w' => e = .returned (.tuple #[.string (see cs l key).1, .bool (see cs l key).2]) ∧ Below w.heap.size w w' := by
  have c0 : w.cell? ⟨gt, 0, none⟩ = some (.pointer (some ⟨gs, 0, none⟩)) := blk_cell X.blk 0
  have c1 : w.cell? ⟨gt, 1, none⟩ = some (.pointer (some ⟨gb, 0, none⟩)) := blk_cell X.blk 1
  cases ht : thereC cs key with
  | true =>
    have hsee : ∀ c, getC cs key = some c → see cs l key = (c.val, !c.gone) := fun c hc => by rw [see, hc]
    have HS := Lib.hid hsee
    clear hsee
    go_enter Tryz.func14, Tryz.ntmps14
    go_wp2_with (go_at_call 48; (with_reducible refine (bget_some X.bt key ht).mono ?_); rintro e w1 ⟨⟨c, hc, hck, rfl⟩, b1⟩; have HC := Lib.hid hc; clear hc)
    go_quiet (fail)
    go_wp2_with (fail)
    go_ret2
    rw [HS.out c HC.out]
    exact ⟨rfl, below_drawn (below_alloc b1 _)⟩
  | false =>
    have hsee : see cs l key = ((getP l key).getD ⟨#[]⟩, (getP l key).isSome) := by rw [see, getC, if_neg (by simp [ht])]
    rw [hsee]
    clear hsee
    go_enter Tryz.func14, Tryz.ntmps14
    go_wp2_with (first
      | (go_at_call 48; (with_reducible refine (bget_none X.bt key ht).mono ?_); rintro e w1 ⟨rfl, b1⟩; have d0 : ∀ o, (w1.alloc o).cell? ⟨gt, 0, none⟩ = some (.pointer (some ⟨gs, 0, none⟩)) := fun o => (World.cell?_of_block (Below.heap_alloc w1 o gt (Nat.lt_of_lt_of_le X.lt b1.size))).trans (blk_cell (X.ofBelow b1).blk 0))
      | (go_at_call 49; (with_reducible refine (kget_any (X.kv.ofBelow (below_alloc b1 _)) hl key).mono ?_); rintro e w2 ⟨rfl, b2⟩))
    go_ret2
    exact ⟨rfl, (below_alloc b1 _).trans (b2.mono (by have := b1.size; simp; omega))⟩
set_option maxRecDepth 100000 in
set_option maxHeartbeats 4000000 in
theorem tkeep_any (X : TxI w0 w gt gs gw gd gb N Z vl vr vb h p q l cs e) (c : Int) (he : e = 0) : Calls Tryz.prog 81 #[.pointer (some ⟨gt, 0, none⟩), .int .i64 c] w fun en w' => en = .returned (.tuple #[]) ∧ TxI w0 w' gt gs gw gd gb N Z vl vr vb h p q l cs c ∧ Turn w w' (fun k => k = gt) := by
  have c2 : w.cell? ⟨gt, 2, none⟩ = some (.int .i64 e) := blk_cell X.blk 2
  have f2 : w.frozen? ⟨gt, 2, none⟩ = false := blk_frozen X.blk 2
  rw [he] at c2
  go_enter Tryz.func81, Tryz.ntmps81
  go_wp2_with (fail)
  refine Go.Great.bodyPost_end0 rfl rfl ?_
  have tw : Turn w (w.setCell ⟨gt, 2, none⟩ (.int .i64 c)) (fun k => k = gt) := (Turn.refl w (fun k => k = gt)).setCell (p := ⟨gt, 2, none⟩) (.inl rfl) _
  refine ⟨rfl, ⟨tw.below X.low X.low.size (fun k hk => hk ▸ X.g0), X.kv.turn tw (fun k hk hk2 => X.kvOut k hk (.inl hk2)), X.bt.turn tw (fun k hk hk2 => X.gtOut (hk2 ▸ hk)), ?_, X.g0, X.fit⟩, tw⟩
  have := blk_set X.blk 2 (.int .i64 c)
  simpa using this
set_option maxRecDepth 100000 in
set_option maxHeartbeats 4000000 in
theorem tput_any (X : TxI w0 w gt gs gw gd gb N Z vl vr vb h p q l cs e) (he : e = 0) (key val : ByteArray) : Calls Tryz.prog 44 #[.pointer (some ⟨gt, 0, none⟩), .string key, .string val] w fun en w' => ∃ vb', en = .returned (.tuple #[]) ∧ TxI w0 w' gt gs gw gd gb N Z vl vr vb' h p q l (chg cs ⟨key, val, false⟩).2 (chg cs ⟨key, val, false⟩).1 ∧ Turn w w' (TxS gt gb vb) ∧ Grow w vb vb' := by
  have c1 : w.cell? ⟨gt, 1, none⟩ = some (.pointer (some ⟨gb, 0, none⟩)) := blk_cell X.blk 1
  have c2 : w.cell? ⟨gt, 2, none⟩ = some (.int .i64 e) := blk_cell X.blk 2
  rw [he] at c2
  go_enter Tryz.func44, Tryz.ntmps44
  go_wp2_with (first
    | (go_at_call 80; (with_reducible refine (put_any X.bt X.low.size key val).mono ?_); rintro en w1 ⟨vb1, rfl, g1, g2, g3⟩; have X1 := X.afterPut g1 g2 (chg_fit X.fit _))
    | (go_at_call 81; (with_reducible refine (tkeep_any X1 _ he).mono ?_); rintro en w2 ⟨rfl, X2, t2⟩))
  refine Go.Great.bodyPost_end0 rfl rfl ?_
  exact ⟨vb1, rfl, X2, (g2.mono (fun k hk => .inr hk)).then_ t2 (fun k hk => .inl (.inl hk)), g3⟩
end
end Go.Proofs.YtpniccllpfonfaaGreatDoor.St
namespace Go.Proofs.YtpniccllpfonfaaGreatDoor.St
open Go Go.RowKit Go.Proofs.YtpniccllpfonfaaGreatDoorW.PrintWords Go.Proofs.YtpniccllpfonfaaGreatDoor.Wd Go.Proofs.YtpniccllpfonfaaGreatDoor.Q
theorem fits_small {c : Ch} (h : fitsC c = 0) : c.key.size < 2000000 ∧ c.val.size < 2000000 := by
  unfold fitsC at h
  split at h
  · exact absurd h (by decide)
  · split at h
    · exact absurd h (by decide)
    · omega
abbrev ctrKey (name : ByteArray) : ByteArray := (⟨#[110, 47]⟩ : ByteArray) ++ name
section
variable {w0 w w' : World} {gt gs gw gd gb N Z h p q : Nat} {vl vr vb : Value} {l : List Pr} {cs : List Ch} {e : Int}
theorem TxI.setErr (X : TxI w0 w gt gs gw gd gb N Z vl vr vb h p q l cs e) (c : Int) : TxI w0 (w.setCell ⟨gt, 2, none⟩ (.int .i64 c)) gt gs gw gd gb N Z vl vr vb h p q l cs c ∧ Turn w (w.setCell ⟨gt, 2, none⟩ (.int .i64 c)) (fun k => k = gt) := by
  have tw : Turn w (w.setCell ⟨gt, 2, none⟩ (.int .i64 c)) (fun k => k = gt) := (Turn.refl w (fun k => k = gt)).setCell (p := ⟨gt, 2, none⟩) (.inl rfl) _
  refine ⟨⟨tw.below X.low X.low.size (fun k hk => hk ▸ X.g0), X.kv.turn tw (fun k hk hk2 => X.kvOut k hk (.inl hk2)), X.bt.turn tw (fun k hk hk2 => X.gtOut (hk2 ▸ hk)), ?_, X.g0, X.fit⟩, tw⟩
  have := blk_set X.blk 2 (.int .i64 c)
  simpa using this
theorem turn_from {W : World} {S : Nat → Prop} (h : Turn W w' S) (hb : Below w.heap.size w W) : Turn w w' S := (Turn.of_below hb S).then_ h (fun _ hk => .inl hk)
theorem TxI.afterCommit {vr' : Value} {p' : Nat} {l' : List Pr} (X : TxI w0 w gt gs gw gd gb N Z vl vr vb h p q l cs e) (hk : Kv w0.heap.size w' gs gw gd N Z vl vr' h p' q l') (ht : Turn w w' (KvS gs gw gd vl vr)) : TxI w0 w' gt gs gw gd gb N Z vl vr' vb h p' q l' cs e :=
  ⟨ht.below X.low X.low.size X.kv.geB, hk, X.bt.turn ht (fun k hk hk2 => X.kvOut k hk2 (.inr hk)), (ht.block X.lt (fun hk2 => X.kvOut _ hk2 (.inl rfl))).trans X.blk, X.g0, X.fit⟩
set_option maxRecDepth 100000 in
set_option maxHeartbeats 4000000 in
theorem tnext_any (hA : Amb w0) (X : TxI w0 w gt gs gw gd gb N Z vl vr vb h p q l cs e) (he : e = 0) (hl : l.length < 1000000) (name : ByteArray) (hn : name.size < 1000000) (k : Nat) (v : Int) (hf : store_figure.f k (see cs l (ctrKey name)).1 = some v) (hv0 : 0 ≤ v) (hv1 : v < 100000000000000) :
    Calls Tryz.prog 12 #[.pointer (some ⟨gt, 0, none⟩), .string name] w fun en w' => ∃ vb', en = .returned (.int .i64 (v + 1)) ∧ TxI w0 w' gt gs gw gd gb N Z vl vr vb' h p q l (chg cs ⟨ctrKey name, ⟨(Lib.itoa (v + 1)).toArray⟩, false⟩).2 (chg cs ⟨ctrKey name, ⟨(Lib.itoa (v + 1)).toArray⟩, false⟩).1 ∧ Turn w w' (TxS gt gb vb) ∧ Grow w vb vb' := by
  have hw1 : IntKind.i64.wrap (v + 1) = v + 1 := by rw [IntKind.wrap_i64]; omega
  have hw2 : wrap64 (v + 1) = v + 1 := wr_id _ (by omega) (by omega)
  have hq1 : ¬ 9223372036854775807 < 2 + name.size := by omega
  have hit : strconv_Itoa.f (v + 1) = some ⟨(Lib.itoa (v + 1)).toArray⟩ := by
    unfold strconv_Itoa.f
    rw [if_pos (by omega), if_pos (by omega)]
  have HF := Lib.hid hf
  have HI := Lib.hid hit
  clear hf hit
  go_enter Tryz.func12, Tryz.ntmps12
  go_wp2_with (first
    | (go_at_call 14; (with_reducible refine (tget_any X hl (ctrKey name)).mono ?_); rintro en w1 ⟨rfl, b1⟩)
    | (go_at_call 43; (with_reducible refine (store_figure.calls k _ v _ ((X.ofBelow b1).amb hA) HF.out).mono ?_); rintro en w2 ⟨rfl, b2⟩)
    | (go_at_call 45; (with_reducible refine (strconv_Itoa.calls (v + 1) _ _ (((X.ofBelow b1).ofBelow b2).amb hA) HI.out).mono ?_); rintro en w3 ⟨rfl, b3⟩)
    | (go_at_call 44; (with_reducible refine (tput_any (((X.ofBelow b1).ofBelow b2).ofBelow b3) he (ctrKey name) _).mono ?_); rintro en w4 ⟨vb4, rfl, X4, t4, g4⟩))
  go_ret
  have hs1 := b1.size
  have hs2 := b2.size
  have hs3 := b3.size
  have b13 : Below w.heap.size w w3 := (b1.trans (b2.mono hs1)).trans (b3.mono (by omega))
  refine ⟨vb4, rfl, X4, (Turn.of_below b13 _).then_ t4 (fun k hk => .inl hk), fun k hk => ?_⟩
  rcases g4 k hk with h9 | h9
  · exact .inl h9
  · exact .inr (by omega)
set_option maxRecDepth 100000 in
set_option maxHeartbeats 4000000 in
theorem tcommit_puts (X : TxI w0 w gt gs gw gd gb N Z vl vr vb h p q l cs e) (he : e = 0) (hl : l.length < 100000) (h0 : 0 < cs.length) (hput : ∀ c ∈ cs, c.gone = false) (hu : usedL (commitL l cs) ≤ q) (hq : q < 2000000000) (hroom : p + 9 + (rowL (cs.map textC)).length + 1 ≤ half_ N * Z) :
    Calls Tryz.prog 13 #[.pointer (some ⟨gt, 0, none⟩)] w fun en w' => ∃ vr', en = .returned (.int .i64 0) ∧ TxI w0 w' gt gs gw gd gb N Z vl vr' (.slice none 0 0) h (p + 9 + (rowL (cs.map textC)).length) q (commitL l cs) [] 0 ∧ Turn w w' (fun k => TxS gt gb vb k ∨ KvS gs gw gd vl vr k) := by
  have c0 : w.cell? ⟨gt, 0, none⟩ = some (.pointer (some ⟨gs, 0, none⟩)) := blk_cell X.blk 0
  have c1 : w.cell? ⟨gt, 1, none⟩ = some (.pointer (some ⟨gb, 0, none⟩)) := blk_cell X.blk 1
  have c2 : w.cell? ⟨gt, 2, none⟩ = some (.int .i64 e) := blk_cell X.blk 2
  rw [he] at c2
  have hput2 : ∀ c ∈ cs, (c.key.size < 2000000 ∧ c.val.size < 2000000) ∧ c.gone = false := fun c hc => ⟨fits_small (X.fit c hc), hput c hc⟩
  have hB := X.low.size
  have hcom : ∀ W, Below w.heap.size w W → Calls Tryz.prog 46 #[.pointer (some ⟨gs, 0, none⟩), .pointer (some ⟨gb, 0, none⟩)] W fun e w' => ∃ v', e = .returned (.int .i64 0) ∧ Kv w0.heap.size w' gs gw gd N Z vl v' h (p + 9 + (rowL (cs.map textC)).length) q (commitL l cs) ∧ Turn W w' (KvS gs gw gd vl vr) ∧ (∀ k, v'.ownBlock = some k → W.heap.size ≤ k) := fun W hb =>
    commit_puts (X.ofBelow hb).kv (X.ofBelow hb).bt (X.ofBelow hb).low.size h0 hput2 hl hu hq hroom
  clear hput2 hroom hu
  go_enter Tryz.func13, Tryz.ntmps13
  go_wp2_with (fail)
  go_region_with (first
    | (go_at_call 46; refine (hcom _ ?hb1).mono ?_; (case hb1 => (repeat (with_reducible first | exact Below.refl _ _ | apply below_alloc | apply pw_below_drewN | apply below_drew1))); rintro en w3 ⟨v3, rfl, k3, t3, o3⟩; have t3' := turn_from (w := w) t3 (by repeat (with_reducible first | exact Below.refl _ _ | apply below_alloc | apply pw_below_drewN | apply below_drew1)); have X3 := X.afterCommit k3 t3'; have d1 : w3.cell? ⟨gt, 1, none⟩ = some (.pointer (some ⟨gb, 0, none⟩)) := blk_cell X3.blk 1)
    | fail)
  all_goals go_wp2_with (go_at_call 47; (with_reducible refine (clear_any X3.bt).mono ?_); rintro en w4 ⟨rfl, g4, t4⟩; have t4' : Turn w3 w4 (BtS gb vb) := t4.mono (fun k hk => .inl hk); have X4 := X3.afterPut g4 t4' (fun c hc => by cases hc); have d2 : w4.cell? ⟨gt, 2, none⟩ = some (.int .i64 e) := blk_cell X4.blk 2; have f2 : w4.frozen? ⟨gt, 2, none⟩ = false := blk_frozen X4.blk 2)
  all_goals go_ret
  all_goals
    obtain ⟨X5, t5⟩ := X4.setErr 0
    exact ⟨v3, rfl, X5, ((t3'.mono (fun k hk => .inr hk)).then_ t4' (fun k hk => .inl (.inl (.inr hk)))).then_ t5 (fun k hk => .inl (.inl (.inl hk)))⟩
end
end Go.Proofs.YtpniccllpfonfaaGreatDoor.St
namespace Go.Proofs.YtpniccllpfonfaaGreatDoor.St
open Go Go.RowKit Go.Proofs.YtpniccllpfonfaaGreatDoorW.PrintWords Go.Proofs.YtpniccllpfonfaaGreatDoor.Wd Go.Proofs.YtpniccllpfonfaaGreatDoor.Q
section
variable {B : Nat} {w w' : World} {gs gw gd N Z h p q gb : Nat} {vl vr vb : Value} {l : List Pr}
set_option maxRecDepth 100000 in
set_option maxHeartbeats 4000000 in
theorem commit_none (H : Kv B w gs gw gd N Z vl vr h p q l) (Hb : Bt B w gb vb []) : Calls Tryz.prog 46 #[.pointer (some ⟨gs, 0, none⟩), .pointer (some ⟨gb, 0, none⟩)] w fun e w' => e = .returned (.int .i64 0) ∧ w' = w := by
  go_enter Tryz.func46, Tryz.ntmps46
  go_wp2_with (go_at_call 69; (with_reducible refine (blen_any Hb).mono ?_); rintro e w1 ⟨rfl, rfl⟩)
  go_ret
  exact ⟨rfl, rfl⟩
set_option maxRecDepth 100000 in
set_option maxHeartbeats 4000000 in
theorem world_nil : Calls Tryz.prog 10 #[.slice none 0 0] w fun e w' => ∃ gs gw gd vl, e = .returned (.pointer (some ⟨gs, 0, none⟩)) ∧ Kv w.heap.size w' gs gw gd 4096 256 vl (.slice none 0 0) 0 0 1073741824 [] ∧ Below w.heap.size w w' := by
  have hdisk : Calls Tryz.prog 41 #[.slice none 0 0] w fun e w' => ∃ gs gw gd vl, e = .returned (.tuple #[.pointer (some ⟨gs, 0, none⟩), .pointer (some ⟨gd, 0, none⟩)]) ∧ Kv w.heap.size w' gs gw gd 4096 256 vl (.slice none 0 0) 0 0 1073741824 [] ∧ Below w.heap.size w w' := by
    have hnew : Calls Tryz.prog 78 #[.int .i64 4096, .int .i64 256] w fun e w' => ∃ g vl, e = .returned (.tuple #[.pointer (some ⟨g, 0, none⟩), .int .i64 0]) ∧ Dk w.heap.size w' g 4096 256 vl (.slice none 0 0) false 0 ∧ Below w.heap.size w w' := dnew_any (w := w) 4096 256 (by decide) (by decide) (by decide) (by decide)
    have hfmt : ∀ (W : World) (g : Nat) (vl : Value), Dk w.heap.size W g 4096 256 vl (.slice none 0 0) false 0 → w.heap.size ≤ W.heap.size → Calls Tryz.prog 79 #[.pointer (some ⟨g, 0, none⟩), .int .i64 1073741824] W fun e w' => ∃ gs gw, e = .returned (.tuple #[.pointer (some ⟨gs, 0, none⟩), .int .i64 0]) ∧ W.heap.size ≤ gs ∧ Kv w.heap.size w' gs gw g 4096 256 vl (.slice none 0 0) 0 0 1073741824 [] ∧ Turn W w' (DkS g vl (.slice none 0 0)) := fun W g vl hd hB =>
      kformat_any hd hB (by decide) (by decide) 1073741824 (by decide)
    go_enter Tryz.func41, Tryz.ntmps41
    go_wp2_with (first
      | (go_at_call 78; (with_reducible refine hnew.mono ?_); rintro e w1 ⟨g, vl, rfl, hd, b1⟩)
      | (go_at_call 79; (with_reducible refine (hfmt _ _ _ hd b1.size).mono ?_); rintro e w2 ⟨gs, gw, rfl, hgs, hk, ht⟩; have s2 := ht.size; have s1 := b1.size; have b2 := ht.below b1 s1 hd.geB)
      | (go_at_call 42; (with_reducible refine (bnew_any (B := w.heap.size) (Nat.le_trans s1 s2)).mono ?_); rintro e w3 ⟨rfl, hb, b3⟩))
    go_loopw [9] (fun i wr => i = .int .i64 0 ∧ wr = w3) (fun _ _ => 0)
    case atStart => exact ⟨rfl, rfl⟩
    case round =>
      obtain ⟨rfl, rfl⟩ := hrel
      go_wp2_with (go_at_call 46; (with_reducible refine (commit_none (hk.ofBelow b3) hb).mono ?_); rintro e w4 ⟨rfl, rfl⟩)
      go_ret2
      exact ⟨gs, gw, g, vl, rfl, hk.ofBelow b3, b2.trans (b3.mono (Nat.le_trans s1 s2))⟩
  go_enter Tryz.func10, Tryz.ntmps10
  go_wp2_with (go_at_call 41; (with_reducible refine hdisk.mono ?_); rintro e w1 ⟨gs, gw, gd, vl, rfl, hk, hb⟩)
  go_ret
  exact ⟨gs, gw, gd, vl, rfl, hk, hb⟩
end
end Go.Proofs.YtpniccllpfonfaaGreatDoor.St
