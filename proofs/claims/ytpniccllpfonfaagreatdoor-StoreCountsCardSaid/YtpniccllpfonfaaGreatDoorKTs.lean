-- Texts of this session put together by a program of it (wip/pack.py).
import Derived.Test.YtpniccllpfonfaaGreatDoorKG9
import Derived.Test.YtpniccllpfonfaaGreatDoorKGR
import Derived.Sort.QuietIn
import Derived.Sort.CutIn
namespace Go.Proofs.YtpniccllpfonfaaGreatDoor.St
open Go Go.RowKit Go.Shelf Go.Proofs.YtpniccllpfonfaaGreatDoorW.PrintWords Go.Proofs.YtpniccllpfonfaaGreatDoor.Wd
attribute [local go_sem] Oper.semAt_some
/-- What was gathered and what is to come, behind some changes. -/
def stOf (key : ByteArray) (m : List Pr) (pre : List AllC) : List Pr × List Pr := (pre.map (fun x => x.1)).foldl (stepT key) ([], m)
def ITs (w : World) (B1 bo ba Bn : Nat) (ao : Option Addr) (co : Nat) (m : List Pr) (key : ByteArray) (pre : List AllC) (W : World) : Prop :=
  ∃ o A c va, (stOf key m pre).2 = m.drop o ∧ TS w B1 bo ba Bn ao co m key (stOf key m pre).1 o A c va W
theorem its_own {w : World} {B1 bo ba Bn co n : Nat} {ao : Option Addr} {m : List Pr} {key : ByteArray} (hn : w.heap.size ≤ n) : OwnFrom n (ITs w B1 bo ba Bn ao co m key) := by
  rintro pre X Y row ⟨o, A, c, va, h1, h2⟩ hg hr
  exact ⟨o, A, c, va, h1, h2.ofGrown hg (fun r e => ⟨Nat.le_trans hn (hr r e).1, (hr r e).2⟩)⟩
theorem stOf_snoc (key : ByteArray) (m : List Pr) (pre : List AllC) (x : AllC) : stOf key m (pre ++ [x]) = stepT key (stOf key m pre) x.1 := by
  unfold stOf
  rw [List.map_append, List.foldl_append]
  rfl
theorem wpListIn_append_run {F : Fence} {n : Nat} {P : Program} {ops : Array Oper} {rest : List Oper} {o : Oper} {a : Act} {w : World} {Q : Exit → Act → World → Prop} (hg : o.guard = none) (s x : Operand) (t : TypeId) (hop : o.op = Op.call { callee := Callee.builtin Builtin.append, args := #[s, x], argTypes := #[t, t] }) (v u : Value) (hs : a.eval s = v) (hx : a.eval x = u) {v' : Value} {w' : World}
    (hrun : (Builtin.append_ #[t, t] o.type #[v, u]).run P w = .ok v' w') (hK : wpListIn F n P ops Q rest (a.put o.dst v') w') : wpListIn F n P ops Q (o :: rest) a w := by
  refine wpListIn_plain hg fun K hK' => ?_
  unfold Oper.wpIn
  refine ⟨?_, ?_⟩
  · simp [Oper.about, hop, resolve, Target.leads, Sem.run_pure]
  · rw [Oper.semAt_plain F _ _ (by rw [hop]; intro c hc'; cases hc')]
    simp [execOp, hop, resolve, invoke, builtin, hs, hx, hrun, Result.andThen]
    exact hK' _ _ hK
theorem flatP_app (a b : List Pr) : flatP (a ++ b) = flatP a ++ flatP b := by simp [flatP, flat]
/-- What is left of the store's pairs, appended. -/
theorem app_rest {w W : World} {B1 bo ba Bn co o c : Nat} {ao A : Option Addr} {m a : List Pr} {key : ByteArray} {va : Value} (H : TS w B1 bo ba Bn ao co m key a o A c va W) (hB : Bn ≤ W.heap.size) (hn : a.length + m.length < 1000000) :
    ∃ v' w', (Builtin.append_ #[33, 33] 33 #[va, .slice A (m.length - o) c]).run Tryz.prog W = .ok v' w' ∧ w'.ownsRow Bn 96 2 v' (a ++ m.drop o).length (flatP (a ++ m.drop o)) ∧ W.grownBy w' va.ownBlock := by
  obtain ⟨i0, hi0, hz0, hz1, hz2⟩ := info_parts infoP
  have hle := H.le
  have hfl : flatP (a ++ m.drop o) = flatP a ++ flatP (m.drop o) := by simp [flatP, flat]
  have hll : (flatP (m.drop o)).length = (m.length - o) * 2 := by rw [flatP, flat_len cellsP 2 cellsP_len, List.length_drop]
  rcases Nat.lt_or_ge o m.length with ho | ho
  · obtain ⟨g, hao, hA⟩ := H.rest.2 ho
    have hcell : ∀ j u, (flatP (m.drop o))[j]? = some u → W.cell? ((⟨g, o * 2, none⟩ : Addr).add j) = some u := fun j u hj => by
      have hold := H.old
      rw [hao] at hold
      obtain ⟨g', cur, e, _, _, _, hx⟩ := rowE_at hold (by omega)
      obtain rfl : g = g' := by simpa using e
      rw [Wd.add_at]
      refine hx (o * 2 + j) u ?_
      have hd : flatP (m.drop o) = (flatP m).drop (o * 2) := by
        have h1 := flatP_app (m.take o) (m.drop o)
        rw [List.take_append_drop] at h1
        rw [h1, List.drop_left' (by rw [flatP, flat_len cellsP 2 cellsP_len, List.length_take]; omega)]
      rw [hd, List.getElem?_drop] at hj
      exact hj
    obtain ⟨v', w', hrun, hown, hgrow, _, _⟩ := run_append_own_at (P := Tryz.prog) W Bn 33 33 96 i0 _ 2 32 Tryz.underlying33 hi0 hz0 hz1 hz2 rfl (by omega) va a.length (flatP a) H.row ⟨g, o * 2, none⟩ (m.length - o) c (flatP (m.drop o)) hll hcell (flat_one cellsP cellsP_one _) (by unfold maxLen; omega) (by omega) hB
    rw [hA]
    exact ⟨v', w', hrun, by rw [List.length_append, List.length_drop, hfl]; exact hown, hgrow⟩
  · have h0 : m.length - o = 0 := by omega
    have hd : m.drop o = [] := List.drop_of_length_le ho
    rw [h0, hd, List.append_nil]
    cases A with
    | none =>
      refine ⟨va, W, ?_, H.row, World.grownBy.refl W _⟩
      obtain ⟨-, ⟨rfl, -⟩ | ⟨g, cap, cur, rfl, -, -, hnc, -, -, -⟩⟩ := H.row
      · simp [Builtin.append_, run_underlying Tryz.underlying33, sizeOf, typeInfo, hi0, Builtin.lenOf, Builtin.firstCells]
      · simp [Builtin.append_, run_underlying Tryz.underlying33, sizeOf, typeInfo, hi0, Builtin.lenOf, Builtin.firstCells, hnc, storeCells]
    | some ad =>
      obtain ⟨v', w', hrun, hown, hgrow, _, _⟩ := run_append_own_at (P := Tryz.prog) W Bn 33 33 96 i0 _ 2 32 Tryz.underlying33 hi0 hz0 hz1 hz2 rfl (by omega) va a.length (flatP a) H.row ad 0 c [] rfl (fun j u hj => by simp at hj) (fun u hu => by cases hu) (by unfold maxLen; omega) (by omega) hB
      rw [Nat.add_zero, List.append_nil] at hown
      exact ⟨v', w', hrun, hown, hgrow⟩
def lenAt (W : World) (b : Nat) : Nat := match W.cell? ⟨b, 0, none⟩ with | some (.slice _ n _) => n | _ => 0
theorem lenAt_of {W : World} {b n c t : Nat} {A : Option Addr} (h : W.heap[b]? = some (.cells #[.slice A n c] t (0, 0))) : lenAt W b = n := by
  have : W.cell? ⟨b, 0, none⟩ = some (.slice A n c) := blk_cell h 0
  unfold lenAt
  rw [this]
theorem take_on {m : List Pr} {o q : Nat} (hoq : o ≤ q) (hq : q < m.length) : (m.drop o).take (q + 1 - o) = (m.drop o).take (q - o) ++ [m[q]] := by
  have h : q - o < (m.drop o).length := by rw [List.length_drop]; omega
  rw [show q + 1 - o = q - o + 1 by omega, List.take_succ_eq_append_getElem h, List.getElem_drop]
  congr 3
  omega
theorem cut_at {m : List Pr} {o q : Nat} {k : ByteArray} (hoq : o ≤ q) (hqm : q ≤ m.length) (hless : ∀ i (h : i < m.length), o ≤ i → i < q → m[i].key.toList < k.toList) (hstop : ∀ h : q < m.length, ¬ m[q].key.toList < k.toList) :
    (m.drop o).takeWhile (fun y => decide (y.key.toList < k.toList)) = (m.drop o).take (q - o) ∧ (m.drop o).dropWhile (fun y => decide (y.key.toList < k.toList)) = m.drop q := by
  have h1 := takeWhile_take (fun y : Pr => decide (y.key.toList < k.toList)) (m.drop o) (q - o) (fun i hi hk => by
    rw [List.length_drop] at hi
    have := hless (o + i) (by omega) (by omega) (by omega)
    simpa using this) (fun hk => by
    rw [List.length_drop] at hk
    have := hstop (by omega)
    simp only [List.getElem_drop, decide_eq_false_iff_not]
    have e : o + (q - o) = q := by omega
    simpa only [e] using this)
  refine ⟨h1, ?_⟩
  have h2 := List.takeWhile_append_dropWhile (p := fun y : Pr => decide (y.key.toList < k.toList)) (l := m.drop o)
  rw [h1] at h2
  have h3 := h2.trans (List.take_append_drop (q - o) (m.drop o)).symm
  have h4 := List.append_cancel_left h3
  rw [h4, List.drop_drop, show o + (q - o) = q by omega]
theorem step_eq {key : ByteArray} {a m : List Pr} {x : Ch} {o q : Nat} (hp : begins key x.key = true) (hoq : o ≤ q) (hqm : q ≤ m.length) (hless : ∀ i (h : i < m.length), o ≤ i → i < q → m[i].key.toList < x.key.toList) (hstop : ∀ h : q < m.length, ¬ m[q].key.toList < x.key.toList) :
    stepT key (a, m.drop o) x = (a ++ (m.drop o).take (q - o) ++ (if x.gone then [] else [⟨x.key, x.val⟩]), if ((m.drop q).head?.map (·.key)) = some x.key then (m.drop q).tail else m.drop q) := by
  obtain ⟨h1, h2⟩ := cut_at hoq hqm hless hstop
  rw [stepT, if_pos hp]
  simp only
  rw [h1, h2]
theorem next_eq {m : List Pr} {q : Nat} {k : ByteArray} (hlt : q < m.length) (he : m[q].key = k) : (if ((m.drop q).head?.map (·.key)) = some k then (m.drop q).tail else m.drop q) = m.drop (q + 1) := by
  have hd9 : m.drop q = m[q] :: m.drop (q + 1) := List.drop_eq_getElem_cons hlt
  rw [hd9, if_pos (by rw [List.head?_cons, Option.map_some, he]), List.tail_cons]
theorem next_ne {m : List Pr} {q : Nat} {k : ByteArray} (hne : ∀ h : q < m.length, m[q].key ≠ k) : (if ((m.drop q).head?.map (·.key)) = some k then (m.drop q).tail else m.drop q) = m.drop q := by
  by_cases hlt : q < m.length
  · have hd9 : m.drop q = m[q] :: m.drop (q + 1) := List.drop_eq_getElem_cons hlt
    rw [hd9, if_neg (by rw [List.head?_cons, Option.map_some]; exact fun e => hne hlt (Option.some.inj e))]
  · rw [List.drop_of_length_le (by omega), if_neg (by simp)]
/-- While the store's pairs ahead of a change are taken. -/
def RLp (w W : World) (B1 bo ba Bn Bx : Nat) (ao : Option Addr) (co : Nat) (m : List Pr) (key : ByteArray) (a : List Pr) (o : Nat) (x : Ch) (wr : World) : Prop :=
  ∃ q A c va, o ≤ q ∧ q ≤ m.length ∧ (∀ i (h : i < m.length), o ≤ i → i < q → m[i].key.toList < x.key.toList) ∧ TS w B1 bo ba Bn ao co m key (a ++ (m.drop o).take (q - o)) q A c va wr ∧ wr.heap[Bx]? = some (.cells #[.string x.key, .string x.val, .bool x.gone] 93 (0, 0)) ∧ KeepsOthers W wr ∧ Below w.heap.size W wr
/-- How much has been gathered. -/
theorem step_len (key : ByteArray) (s : List Pr × List Pr) (c : Ch) : (stepT key s c).1.length + (stepT key s c).2.length ≤ s.1.length + s.2.length + 1 := by
  unfold stepT
  split
  · have h1 := congrArg List.length (List.takeWhile_append_dropWhile (p := fun x : Pr => decide (x.key.toList < c.key.toList)) (l := s.2))
    rw [List.length_append] at h1
    simp only [List.length_append]
    have h2 : (if c.gone then ([] : List Pr) else [⟨c.key, c.val⟩]).length ≤ 1 := by split <;> simp
    have h3 : (if ((s.2.dropWhile fun x => decide (x.key.toList < c.key.toList)).head?.map (·.key)) = some c.key then (s.2.dropWhile fun x => decide (x.key.toList < c.key.toList)).tail else s.2.dropWhile fun x => decide (x.key.toList < c.key.toList)).length ≤ (s.2.dropWhile fun x => decide (x.key.toList < c.key.toList)).length := by
      split
      · rw [List.length_tail]; omega
      · exact Nat.le_refl _
    omega
  · omega
theorem stOf_len (key : ByteArray) (m : List Pr) (pre : List AllC) : (stOf key m pre).1.length + (stOf key m pre).2.length ≤ m.length + pre.length := by
  have : ∀ (cs : List Ch) (s : List Pr × List Pr), (cs.foldl (stepT key) s).1.length + (cs.foldl (stepT key) s).2.length ≤ s.1.length + s.2.length + cs.length := by
    intro cs
    induction cs with
    | nil => intro s; simp
    | cons c cs ih =>
      intro s
      have h1 := ih (stepT key s c)
      have h2 := step_len key s c
      simp only [List.foldl_cons, List.length_cons]
      omega
  have h := this (pre.map (fun x => x.1)) ([], m)
  simp only [List.length_nil, Nat.zero_add, List.length_map] at h
  exact h
section
variable {w0 w w' : World} {gt gs gw gd gb N Z h p q : Nat} {vl vr vb : Value} {l : List Pr} {cs : List Ch} {e : Int}
set_option maxRecDepth 100000 in
set_option maxHeartbeats 8000000 in
theorem tscan_any (X : TxI w0 w gt gs gw gd gb N Z vl vr vb h p q l cs e) (hl : l.length < 100000) (key : ByteArray) : Calls Tryz.prog 16 #[.pointer (some ⟨gt, 0, none⟩), .string key] w fun en w' => ∃ v, en = .returned v ∧ w'.ownsRow w.heap.size 96 2 v (scanT l cs key).length (flatP (scanT l cs key)) ∧ Below w.heap.size w w' := by
  obtain ⟨lo, hlo⟩ := allC_list cs X.fit
  have hlen : lo.length = cs.length := by rw [← hlo, List.length_map]
  obtain ⟨W1, hW1⟩ : ∃ W1, W1 = w.alloc (.cells #[.string key] 9 (0, 0)) := ⟨_, rfl⟩
  have b1 : Below w.heap.size w W1 := by rw [hW1]; exact below_alloc (Below.refl _ _) _
  have hp1 : W1.heap[w.heap.size]? = some (.cells #[.string key] 9 (0, 0)) := by rw [hW1]; exact heap_alloc_new w _
  have hs1 : W1.heap.size = w.heap.size + 1 := by rw [hW1, size_alloc]
  have X1 := X.ofBelow b1
  have c0 : W1.cell? ⟨gt, 0, none⟩ = some (.pointer (some ⟨gs, 0, none⟩)) := blk_cell X1.blk 0
  have cp : W1.cell? ⟨w.heap.size, 0, none⟩ = some (.string key) := blk_cell hp1 0
  have hkv : ∀ W, Below W1.heap.size W1 W → Calls Tryz.prog 29 #[.pointer (some ⟨gs, 0, none⟩), .string key] W fun e w' => ∃ v, e = .returned v ∧ w'.ownsRow W.heap.size 96 2 v (scanL l key).length (flatP (scanL l key)) ∧ Below W.heap.size W w' := fun W hb => kscan_any ((X1.ofBelow hb).kv) (by omega) key
  have cpo : ∀ o, (W1.alloc o).cell? ⟨w.heap.size, 0, none⟩ = some (.string key) := fun o => (World.cell?_of_block (Below.heap_alloc W1 o w.heap.size (by omega))).trans cp
  have c0o : ∀ o, (W1.alloc o).cell? ⟨gt, 0, none⟩ = some (.pointer (some ⟨gs, 0, none⟩)) := fun o => (World.cell?_of_block (Below.heap_alloc W1 o gt X1.lt)).trans c0
  have cpd : ∀ n o, ((W1.drewN n).alloc o).cell? ⟨w.heap.size, 0, none⟩ = some (.string key) := fun n o => (World.cell?_of_block (Below.heap_alloc (W1.drewN n) o w.heap.size (by simp; omega))).trans cp
  have c0d : ∀ n o, ((W1.drewN n).alloc o).cell? ⟨gt, 0, none⟩ = some (.pointer (some ⟨gs, 0, none⟩)) := fun n o => (World.cell?_of_block (Below.heap_alloc (W1.drewN n) o gt X1.lt)).trans c0
  have HW1 := Lib.hid hW1
  have HS1 := Lib.hid hs1
  clear hW1 hs1
  have hscan : scanT l cs key = (stOf key (scanL l key) lo).1 ++ (stOf key (scanL l key) lo).2 := by
    unfold scanT stOf
    rw [hlo]
  rw [hscan]
  clear hscan
  have hmlen : (scanL l key).length ≤ l.length := by
    unfold scanL
    exact Nat.le_trans (List.takeWhile_sublist _).length_le (by rw [List.length_drop]; omega)
  obtain ⟨m, hm⟩ : ∃ m, m = scanL l key := ⟨_, rfl⟩
  rw [← hm] at hkv hmlen ⊢
  clear hm
  have mixed : Tryz.prog.follows Departure.mixedOrders = true := by kernel_rfl
  refine (callsIn_wide (n := 4)).1 ?_
  refine callsIn_of_wp_marks Tryz.func16 rfl trivial ?_ rfl
  simp only [Tryz.ntmps16, List.size_toArray, List.length_cons, List.length_nil, Nat.reduceAdd, Nat.reduceSub, Array.replicate_succ, Array.replicate_zero, List.push_toArray, List.append_toArray, List.nil_append, List.cons_append]
  gi_wp2
  rw [← HW1.out]
  gi_cut [5] from 73 (fun s5 wx => ROld W1 m s5 wx)
  case first =>
    refine wpIn_onNormal ?_
    gi_region_with_o (first
      | (refine ⟨trivial, ?_⟩; gi_at_call 29; refine (callsIn_wide.2 (hkv _ ?hb1)).mono ?_; (case hb1 => (repeat (with_reducible first | exact Below.refl _ _ | apply below_alloc | apply pw_below_drewN | apply below_drew1))); rintro en w3 ⟨v3, rfl, r3, b3⟩; obtain ⟨a3, cc3, rfl, _⟩ := sliceE_of r3; first | ((with_reducible (have n9 := keep_alloc b3)); have e0 := blk_cell n9 0; have f0 := blk_frozen n9 0) | ((with_reducible (have n9 := keep_alloc_drew b3)); have e0 := blk_cell n9 0; have f0 := blk_frozen n9 0) | skip)
      | fail)
    all_goals simp only [onNormal]
    all_goals gi_wp2
    all_goals gi_meet
    all_goals with_reducible first
      | exact old_new (by repeat (with_reducible first | exact Below.refl _ _ | apply below_alloc | apply pw_below_drewN | apply below_drew1)) b3 r3
      | exact old_set (by repeat (with_reducible first | exact Below.refl _ _ | apply below_alloc | apply pw_below_drewN | apply below_drew1)) (by simp) b3 r3 n9
  case rest =>
    obtain ⟨bo, ao, co, rfl, bO, rO, bW, hbo⟩ := hcut
    have hs1 := HS1.out
    have XC := X1.ofBelow bW
    have c1o : ∀ o, (wc.alloc o).cell? ⟨gt, 1, none⟩ = some (.pointer (some ⟨gb, 0, none⟩)) := fun o => (World.cell?_of_block (Below.heap_alloc wc o gt XC.lt)).trans (blk_cell XC.blk 1)
    clear c0 cp cpo c0o cpd c0d hkv hs1
    gi_wp2_with (refine ⟨trivial, ?_⟩; gi_at_call 50; refine (callsIn_wide.2 (ball_any gb _)).mono ?_; rintro e w2 ⟨rfl, rfl⟩)
    have hs1 := HS1.out
    have hbl := (Array.getElem?_eq_some_iff.1 bO).1
    have bW1 : Below w.heap.size w wc := b1.trans (bW.mono b1.size)
    obtain ⟨ba, hba⟩ : ∃ ba, ba = wc.heap.size := ⟨_, rfl⟩
    obtain ⟨W0, hW0⟩ : ∃ W0, (wc.alloc (.cells #[.slice none 0 0] 33)).alloc (.cells #[.pointer (some ⟨gb, 0, none⟩)] 86) = W0 := ⟨_, rfl⟩
    have hb0 : Below wc.heap.size wc W0 := by rw [← hW0]; exact below_alloc (below_alloc (Below.refl _ _) _) _
    have hsz0 : W0.heap.size = ba + 2 := by rw [← hW0, hba]; simp
    have bA : W0.heap[ba]? = some (.cells #[.slice none 0 0] 33 (0, 0)) := by rw [← hW0, hba]; exact (Below.heap_alloc _ _ _ (by simp)).trans (heap_alloc_new wc _)
    have bC : W0.cell? ⟨ba + 1, 0, none⟩ = some (.pointer (some ⟨gb, 0, none⟩)) := by
      rw [← hW0, hba]
      have := Boxed.new (wc.alloc (.cells #[.slice none 0 0] 33)) 86 (.pointer (some ⟨gb, 0, none⟩))
      rw [World.size_alloc] at this
      exact this.cell
    have hp0 : W0.heap[w.heap.size]? = some (.cells #[.string key] 9 (0, 0)) := ((bW.trans (hb0.mono bW.size)).block _ (by omega)).trans hp1
    have bW0 : Below w.heap.size w W0 := bW1.trans (hb0.mono bW1.size)
    rw [hW0]
    simp only [← hba]
    have hoLt : ∀ k, (Value.slice ao m.length co).ownBlock = some k → k < ba := fun k hk => by rw [hba]; exact (rO.lt k hk).2
    have hbo2 : bo < ba := by omega
    have hw1 : w.heap.size < bo := by omega
    have hmc : m.length ≤ co := by
      obtain ⟨_, _, e, h9⟩ := sliceE_of rO
      injection e with _ _ e3
      omega
    have I0 : ITs w W1.heap.size bo ba (ba + 2) ao co m key [] W0 := by
      refine ⟨0, ao, co, .slice none 0 0, rfl, ⟨⟨by omega, fun h0 => ?_⟩, Nat.zero_le _, (hb0.block _ hbl).trans bO, bA, ⟨rfl, .inl ⟨rfl, rfl⟩⟩, rowE_below rO hb0, hp0, bW0⟩⟩
      obtain ⟨g, _, e, _⟩ := rowE_at rO h0
      exact ⟨g, e, by rw [e, Nat.zero_mul]⟩
    have hB0 : Bt w0.heap.size W0 gb vb cs := X.bt.ofBelow bW0
    have hlow := X.bt.ltS
    clear hW0 hb0 bA hp0 bO rO XC c1o hp1 X1 b1 hba
    refine wpIn_rangeFunc_ownH rfl (by decide) (gf := 92) (lb := #[.pointer (some ⟨ba + 1, 0, none⟩)]) rfl trivial (enters_of Tryz.func92 (by kernel_rfl) rfl)
      (all_stops (fun x : AllC => x.1) lo hlo (4 - 1) (ba + 1) w.heap.size (by omega) (by omega) bC hB0 hlow) belowK_t (belowK_b (by omega)) (Below.refl _ _) (fun _ => rfl)
      (ITs w W1.heap.size bo ba (ba + 2) ao co m key)
      (fun _ _ _ => False)
      (its_own (by omega))
      (fun _ _ _ _ _ hs _ _ => hs)
      I0
      (fun (x : AllC) a' W => ∃ Bx, ba < Bx ∧ W.heap[Bx]? = some (.cells #[.string x.1.key, .string x.1.val, .bool x.1.gone] 93 (0, 0)) ∧ a' = { tmps := #[.pointer (some ⟨gt, 0, none⟩), .string key, undef, .pointer (some ⟨w.heap.size, 0, none⟩), .slice none 0 0, .pointer (some ⟨bo, 0, none⟩), .pointer (some ⟨ba, 0, none⟩), .pointer (some ⟨Bx, 0, none⟩), u8, u9, u10, u11, u12, u13, .pointer (some ⟨gt, 0, none⟩), .pointer (some ⟨gt, 0, none⟩), .pointer (some ⟨gt, 1, none⟩), .pointer (some ⟨gb, 0, none⟩), .func (.func 92) #[] #[.pointer (some ⟨ba + 1, 0, none⟩)], .agg #[.string x.1.key, .string x.1.val, .bool x.1.gone], undef, undef, undef, undef, undef, undef, undef, undef, undef, undef, undef, undef, undef, undef, undef, undef, undef, undef, undef, undef, undef, undef, undef, undef, undef, undef, undef, undef, undef, undef, undef, undef, undef, undef, undef, undef, undef, undef, undef, undef, undef, undef, undef, undef, undef, undef, undef, undef, undef, undef, undef, undef, undef], defers := [] })
      (fun x a' _ X Y row hs hg hr => by
        obtain ⟨Bx, h1, h2, h3⟩ := hs
        refine ⟨Bx, h1, (hg.block Bx (Array.getElem?_eq_some_iff.1 h2).1 (fun e => ?_)).trans h2, h3⟩
        obtain ⟨_, o, ho, hc⟩ := hr Bx e.symm
        rw [h2] at ho
        obtain rfl := Option.some.inj ho
        cases hc)
      ?assign ?body ?done ?stop
    case assign =>
      rintro l0 pre x W K ⟨o, A, c, va, h1, h2⟩ hK
      gi_wp2
      have hbal := (Array.getElem?_eq_some_iff.1 h2.bA).1
      exact hK _ _ ((KeepsOthers.alloc _ _).from _) (below_alloc' h2.low.size _) ⟨o, A, c, va, h1, h2.ofBelow (below_alloc (Below.refl _ _) _)⟩ ⟨W.heap.size, hbal, heap_alloc_new W _, rfl⟩
    case body =>
      rintro l0 pre x a' W hl0 ⟨r, hr⟩ ⟨o, A, c, va, h1, H⟩ ⟨Bx, hBx, bX, rfl⟩ hlt
      have hsl := stOf_len key m pre
      have hsn := stOf_snoc key m pre x
      obtain ⟨s, hs⟩ : ∃ s, s = stOf key m pre := ⟨_, rfl⟩
      rw [← hs] at H h1 hsl hsn
      clear hs
      obtain ⟨a, rr⟩ := s
      simp only at H h1 hsl
      subst h1
      have HSN := Lib.hid hsn
      clear hsn
      have x0 := (blk_cell bX 0).trans rfl
      simp only [List.getElem?_toArray] at x0
      have p0 : W.cell? ⟨w.heap.size, 0, none⟩ = some (.string key) := blk_cell H.pre 0
      have hfew := X.bt.few
      have hWl2 : ba + 2 < W.heap.size := by have := (Array.getElem?_eq_some_iff.1 hr).1; omega
      have hWl : ba < W.heap.size := (Array.getElem?_eq_some_iff.1 H.bA).1
      have hal : a.length ≤ 200000 := by omega
      clear hsl
      cases hp : begins key x.1.key with
      | false =>
        have hp2 : Lib.hasPrefix x.1.key.data.toList key.data.toList = false := hp
        have HP := Lib.hid hp
        clear hp
        gi_wp2_with (refine ⟨trivial, ?_⟩; gi_at_call 51; refine (CallsIn.inRound l0 (callsIn_wide.2 (Tryz.strings_HasPrefix _ _ _))).mono ?_; rintro e w2 ⟨rfl, rfl⟩)
        refine ⟨(KeepsOthers.refl _).from _, Below.refl _ _, ⟨o, A, c, va, ?_⟩⟩
        rw [HSN.out, stepT, if_neg (by rw [HP.out]; decide)]
        exact ⟨rfl, H⟩
      | true =>
        have hp2 : Lib.hasPrefix x.1.key.data.toList key.data.toList = true := hp
        have HP := Lib.hid hp
        clear hp
        gi_wp2_with (refine ⟨trivial, ?_⟩; gi_at_call 51; refine (CallsIn.inRound l0 (callsIn_wide.2 (Tryz.strings_HasPrefix _ _ _))).mono ?_; rintro e w2 ⟨rfl, rfl⟩)
        clear x0 p0
        gi_loopw [] (fun wr => RLp w w2 W1.heap.size bo ba (ba + 2) Bx ao co m key a o x.1 wr) (fun wr => lenAt wr bo)
        case atStart => exact ⟨o, A, c, va, Nat.le_refl _, H.le, fun i hi h1 h2 => by omega, by rw [Nat.sub_self, List.take_zero, List.append_nil]; exact H, bX, KeepsOthers.refl _, Below.refl _ _⟩
        case round =>
          obtain ⟨q, A, c, va, hoq, hqm, hless, HT, bX2, hK, hBl⟩ := hrel
          have hBl1 : w.heap.size ≤ wr.heap.size := HT.low.size
          have b0 := (blk_cell bX2 0).trans rfl
          have b1 := (blk_cell bX2 1).trans rfl
          have b2 := (blk_cell bX2 2).trans rfl
          simp only [List.getElem?_toArray] at b0 b1 b2
          have y5 : wr.cell? ⟨bo, 0, none⟩ = some (.slice A (m.length - q) c) := blk_cell HT.bO 0
          have y6 : wr.cell? ⟨ba, 0, none⟩ = some va := blk_cell HT.bA 0
          have f5 : wr.frozen? ⟨bo, 0, none⟩ = false := blk_frozen HT.bO 0
          have f6 : wr.frozen? ⟨ba, 0, none⟩ = false := blk_frozen HT.bA 0
          by_cases hlt : q < m.length
          · obtain ⟨n, hn⟩ : ∃ n, n = m.length - q := ⟨_, rfl⟩
            have hn0 : 0 < n := by omega
            have hn1 : (0 : Int) < (n : Int) := by omega
            have hnc : (n : Int) ≤ (c : Int) := by have := HT.rest.1; omega
            obtain ⟨g, hao, hAg⟩ := HT.rest.2 hlt
            have hold := HT.old
            rw [hao] at hold
            obtain ⟨g', cur, e9, _, hgh, _, hx9⟩ := rowE_at hold (by omega)
            obtain rfl : g = g' := by simpa using e9
            have z0 : wr.cell? ⟨g, q * 2, none⟩ = some (.string m[q].key) := hx9 (q * 2) _ (by rw [← Nat.add_zero (q * 2), flatP, flat_get cellsP 2 cellsP_len m q 0 hlt (by decide)]; rfl)
            have z1 : wr.cell? ⟨g, q * 2 + 1, none⟩ = some (.string m[q].val) := hx9 (q * 2 + 1) _ (by rw [flatP, flat_get cellsP 2 cellsP_len m q 1 hlt (by decide)]; rfl)
            rw [hAg, ← hn] at y5
            have HAO := Lib.hid hao
            have HAG := Lib.hid hAg
            have HN := Lib.hid hn
            clear hold hx9 e9 hao hAg hn
            cases hb : Op.bytesLess m[q].key.toList x.1.key.toList with
            | true =>
              gi_wp2
              refine Qr.region_quiet_round (by kernel_rfl) mixed (by kernel_rfl) ?_
              repeat (quiet_step_in (fail))
              refine wpQuietIn_nil ?_
              intro _ hw'
              obtain ⟨nq, hw''⟩ := hw'
              subst hw''
              gi_wp2
              obtain ⟨A', hcut, hrest⟩ := rest_cut HT.rest hlt
              rw [HAG.out, ← HN.out] at hcut
              obtain ⟨a9, ha9⟩ : ∃ a9, a9 = a ++ (m.drop o).take (q - o) := ⟨_, rfl⟩
              have hl9 : a9.length ≤ 400000 := by
                rw [ha9, List.length_append, List.length_take, List.length_drop]
                omega
              rw [← ha9] at HT
              have HA9 := Lib.hid ha9
              clear ha9
              obtain ⟨aa, ca, rfl, _⟩ := sliceE_of HT.row
              obtain ⟨Wd, hWd⟩ : ∃ Wd, Wd = (wr.drewN nq).drewN 1 := ⟨_, rfl⟩
              have bd : Below wr.heap.size wr Wd := by rw [hWd]; exact pw_below_drewN (pw_below_drewN (Below.refl _ _) _) _
              have hS6 : Wd.cell? ⟨ba, 0, none⟩ = some (.slice aa a9.length ca) := by rw [hWd]; exact y6
              have hS5 : Wd.cell? ⟨bo, 0, none⟩ = some (.slice (some ⟨g, q * 2, none⟩) n c) ∧ Wd.cell? ⟨g, q * 2, none⟩ = some (.string m[q].key) ∧ Wd.cell? ⟨g, q * 2 + 1, none⟩ = some (.string m[q].val) := by rw [hWd]; exact ⟨y5, z0, z1⟩
              refine Qr.region_held_round [(8, (fun w' => w'.cell? ⟨ba, 0, none⟩ = some (.slice aa a9.length ca))), (9, (fun w' => w'.cell? ⟨bo, 0, none⟩ = some (.slice (some ⟨g, q * 2, none⟩) n c) ∧ w'.cell? ⟨g, q * 2, none⟩ = some (.string m[q].key) ∧ w'.cell? ⟨g, q * 2 + 1, none⟩ = some (.string m[q].val)))] (by kernel_rfl) mixed ?_
              rw [← hWd]
              clear hWd
              have hS0 : Qr.Held [(8, (fun w' => w'.cell? ⟨ba, 0, none⟩ = some (.slice aa a9.length ca))), (9, (fun w' => w'.cell? ⟨bo, 0, none⟩ = some (.slice (some ⟨g, q * 2, none⟩) n c) ∧ w'.cell? ⟨g, q * 2, none⟩ = some (.string m[q].key) ∧ w'.cell? ⟨g, q * 2 + 1, none⟩ = some (.string m[q].val)))] (Array.replicate 10 false) Wd := Qr.Held.two (fun _ => hS6) (fun _ => hS5)
              refine Qr.until_take (s := 8) (i := 0) (v := .slice aa a9.length ca) rfl rfl (by kernel_rfl) (by kernel_rfl) (by kernel_rfl) (by kernel_rfl) (by kernel_rfl) (by kernel_rfl) (fun _ _ _ h => h) (.head _) (.inl ⟨by rfl, fun w' hS => ?_⟩) hS0 ?_
              · have s6 : w'.cell? ⟨ba, 0, none⟩ = some (.slice aa a9.length ca) := hS
                go_simp
              intro hS0
              refine Qr.until_take (s := 9) (i := 1) (v := .slice (some ⟨g, q * 2, none⟩) n c) rfl rfl (by kernel_rfl) (by kernel_rfl) (by kernel_rfl) (by kernel_rfl) (by kernel_rfl) (by kernel_rfl) (fun _ _ _ h => h) (.tail _ (.head _)) (.inl ⟨by rfl, fun w' hS => ?_⟩) hS0 ?_
              · obtain ⟨s5, s7, s8⟩ := hS
                go_simp
              intro hS0
              refine Qr.until_take (s := 9) (i := 2) (v := .pointer (some ⟨g, q * 2, none⟩)) rfl rfl (by kernel_rfl) (by kernel_rfl) (by kernel_rfl) (by kernel_rfl) (by kernel_rfl) (by kernel_rfl) (fun _ _ _ h => h) (.tail _ (.head _)) (.inl ⟨by rfl, fun w' hS => ?_⟩) hS0 ?_
              · obtain ⟨s5, s7, s8⟩ := hS
                go_simp
              intro hS0
              refine Qr.until_take (s := 9) (i := 3) (v := .agg #[.string m[q].key, .string m[q].val]) rfl rfl (by kernel_rfl) (by kernel_rfl) (by kernel_rfl) (by kernel_rfl) (by kernel_rfl) (by kernel_rfl) (fun _ _ _ h => h) (.tail _ (.head _)) (.inl ⟨by rfl, fun w' hS => ?_⟩) hS0 ?_
              · obtain ⟨s5, s7, s8⟩ := hS
                go_simp
              intro hS0
              refine Qr.until_take (s := 9) (i := 6) (v := .slice (some ⟨g, q * 2, none⟩) n c) rfl rfl (by kernel_rfl) (by kernel_rfl) (by kernel_rfl) (by kernel_rfl) (by kernel_rfl) (by kernel_rfl) (fun _ _ _ h => h) (.tail _ (.head _)) (.inl ⟨by rfl, fun w' hS => ?_⟩) hS0 ?_
              · obtain ⟨s5, s7, s8⟩ := hS
                go_simp
              intro hS0
              refine Qr.until_take (s := 9) (i := 7) (v := .slice A' (m.length - (q + 1)) (c - 1)) rfl rfl (by kernel_rfl) (by kernel_rfl) (by kernel_rfl) (by kernel_rfl) (by kernel_rfl) (by kernel_rfl) (fun _ _ _ h => h) (.tail _ (.head _)) (.inl ⟨by rfl, fun w' hS => ?_⟩) hS0 ?_
              · obtain ⟨s5, s7, s8⟩ := hS
                go_simp
              intro hS0
              clear hS0
              have HTd := HT.ofBelow bd
              refine Qr.until_one (i := 4) (by kernel_rfl) ?_
              obtain ⟨Wt, hWt⟩ : ∃ Wt, Wt = Wd.alloc (.cells #[.string m[q].key, .string m[q].val] 96 (0, 0)) := ⟨_, rfl⟩
              have bt : Below Wd.heap.size Wd Wt := by rw [hWt]; exact below_alloc (Below.refl _ _) _
              have hnew : Wt.heap[Wd.heap.size]? = some (.cells #[.string m[q].key, .string m[q].val] 96 (0, 0)) := by rw [hWt]; exact heap_alloc_new Wd _
              have cellt : ∀ p v, Wd.cell? p = some v → Wt.cell? p = some v := fun p v h => (bt.cell (World.block_lt_of_cell? Wd p h)).trans h
              refine Qr.wpOp_value (v := .slice (some ⟨Wd.heap.size, 0, none⟩) 1 1) (w' := Wt) rfl rfl ?_ ⟨Qr.Held.two (fun _ => cellt _ _ hS6) (fun _ => ⟨cellt _ _ hS5.1, cellt _ _ hS5.2.1, cellt _ _ hS5.2.2⟩), ?_⟩
              · rw [hWt]
                go_simp
              clear hWt
              have HTt := HTd.ofBelow bt
              have hszs : ba + 2 ≤ Wt.heap.size := by
                have h1 := bt.size
                have h2 := bd.size
                have h3 := hBl.size
                have h4 := hK.size
                omega
              obtain ⟨i0, hi0, hz0, hz1, hz2⟩ := info_parts infoP
              obtain ⟨v2, w2', hrun, hown2, hgrow2, _, _⟩ := run_append_own_at (P := Tryz.prog) Wt (ba + 2) 33 33 96 i0 _ 2 32 Tryz.underlying33 hi0 hz0 hz1 hz2 rfl (by omega) (.slice aa a9.length ca) a9.length (flatP a9) HTt.row ⟨Wd.heap.size, 0, none⟩ 1 1 [.string m[q].key, .string m[q].val] rfl (World.news_of_block (cs := #[.string m[q].key, .string m[q].val]) (t := 96) (fr := (0, 0)) hnew) (by simp [Value.oneCell']) (by unfold maxLen; omega) (by omega) hszs
              obtain ⟨a2, c2, rfl, _⟩ := sliceE_of hown2
              have hoLt2 : ∀ k, (Value.slice ao m.length co).ownBlock = some k → k < ba + 2 := fun k hk => Nat.lt_of_lt_of_le (hoLt k hk) (by omega)
              have keep2 : ∀ (k : Nat) (cs : Array Value) (t : Nat), Wt.heap[k]? = some (.cells cs t (0, 0)) → some k ≠ (Value.slice aa a9.length ca).ownBlock → w2'.heap[k]? = some (.cells cs t (0, 0)) := fun k cs t h hn => (hgrow2.block k (Array.getElem?_eq_some_iff.1 h).1 hn).trans h
              have bO2 := keep2 _ _ _ HTt.bO (HTt.row_ne HTt.bO (by decide))
              have bA2 := keep2 _ _ _ HTt.bA (HTt.row_ne HTt.bA (by decide))
              have hgne : some g ≠ (Value.slice aa a9.length ca).ownBlock := HTt.old_lt hoLt2 g (by rw [HAO.out]; rfl)
              have hgba : g ≠ ba := by
                have := hoLt g (by rw [HAO.out]; rfl)
                omega
              have cellg : ∀ j v, Wt.cell? ⟨g, j, none⟩ = some v → w2'.cell? ⟨g, j, none⟩ = some v := fun j v h => (World.cell?_of_block (a := ⟨g, j, none⟩) (hgrow2.block g (World.block_lt_of_cell? Wt _ h) hgne)).trans h
              have d5 : w2'.cell? ⟨bo, 0, none⟩ = some (.slice (some ⟨g, q * 2, none⟩) n c) := by
                have := blk_cell bO2 0
                rw [HAG.out, ← HN.out] at this
                exact this
              have d6 : w2'.cell? ⟨ba, 0, none⟩ = some (.slice aa a9.length ca) := blk_cell bA2 0
              have d7 : w2'.frozen? ⟨bo, 0, none⟩ = false := blk_frozen bO2 0
              have d8 : w2'.frozen? ⟨ba, 0, none⟩ = false := blk_frozen bA2 0
              go_simp
              refine Qr.until_one (i := 5) (by kernel_rfl) ?_
              refine Qr.wpOp_append (v := .slice aa a9.length ca) (u := .slice (some ⟨Wd.heap.size, 0, none⟩) 1 1) (v' := .slice a2 (a9.length + 1) c2) (w' := w2') rfl rfl (.tmp 37) (.tmp 41) 33 rfl rfl rfl hrun ⟨Qr.Held.two (fun _ => d6) (fun _ => ⟨d5, cellg _ _ (cellt _ _ hS5.2.1), cellg _ _ (cellt _ _ hS5.2.2)⟩), ?_⟩
              obtain ⟨T1, k1, l1⟩ := HTd.appended ⟨m[q].key, m[q].val⟩ (by omega) (by omega) (by omega) hoLt2 bt hgrow2 hown2
              obtain ⟨Ws, hWs⟩ : ∃ Ws, Ws = w2'.setCell ⟨ba, 0, none⟩ (.slice a2 (a9.length + 1) c2) := ⟨_, rfl⟩
              refine Qr.until_one (i := 8) (by kernel_rfl) ?_
              have d9 : Ws.cell? ⟨bo, 0, none⟩ = some (.slice (some ⟨g, q * 2, none⟩) n c) := by
                have := blk_cell T1.bO 0
                rw [HAG.out, ← HN.out] at this
                rw [hWs]
                exact this
              have cells : ∀ j v, w2'.cell? ⟨g, j, none⟩ = some v → Ws.cell? ⟨g, j, none⟩ = some v := fun j v h => by
                rw [hWs]
                exact (World.cell?_of_block (a := ⟨g, j, none⟩) (Below.heap_setCell w2' ⟨ba, 0, none⟩ _ g hgba)).trans h
              refine Qr.wpOp_skip (w' := Ws) rfl rfl ?_ ⟨Qr.Held.two (fun h => nomatch (show true = false from h)) (fun _ => ⟨d9, cells _ _ (cellg _ _ (cellt _ _ hS5.2.1)), cells _ _ (cellg _ _ (cellt _ _ hS5.2.2))⟩), ?_⟩
              · rw [hWs]
                go_simp
              rw [← hWs] at T1 k1 l1
              have HWs := Lib.hid hWs
              clear hWs
              have d10 : Ws.frozen? ⟨bo, 0, none⟩ = false := blk_frozen T1.bO 0
              obtain ⟨T2, k2, l2⟩ := T1.moved (by omega) (by omega) hlt hrest
              refine Qr.until_one (i := 9) (by kernel_rfl) ?_
              refine Qr.wpOp_skip (w' := Ws.setCell ⟨bo, 0, none⟩ (.slice A' (m.length - (q + 1)) (c - 1))) rfl rfl ?_ ⟨Qr.Held.two (fun h => nomatch (show true = false from h)) (fun h => nomatch (show true = false from h)), ?_⟩
              · go_simp
              refine Qr.until_done (by kernel_rfl) ?_ _
              simp only [Qr.atEnd]
              gi_wp2
              have hbX : (Ws.setCell ⟨bo, 0, none⟩ (.slice A' (m.length - (q + 1)) (c - 1))).heap[Bx]? = some (.cells #[.string x.1.key, .string x.1.val, .bool x.1.gone] 93 (0, 0)) := by
                have h1 := (bd.block Bx (Array.getElem?_eq_some_iff.1 bX2).1).trans bX2
                have h2 := (bt.block Bx (Array.getElem?_eq_some_iff.1 h1).1).trans h1
                have h3 := keep2 _ _ _ h2 (HTt.row_ne h2 (by decide))
                rw [HWs.out]
                exact (Below.heap_setCell _ ⟨bo, 0, none⟩ _ Bx (by show Bx ≠ bo; omega)).trans ((Below.heap_setCell _ ⟨ba, 0, none⟩ _ Bx (by show Bx ≠ ba; omega)).trans h3)
              have hlq : m[q].key.toList < x.1.key.toList := by rw [bytesLess_eq] at hb; simpa using hb
              have hm1 : lenAt (Ws.setCell ⟨bo, 0, none⟩ (.slice A' (m.length - (q + 1)) (c - 1))) bo < lenAt wr bo := by
                rw [lenAt_of T2.bO, lenAt_of HT.bO]
                omega
              have e9 : a9 ++ [⟨m[q].key, m[q].val⟩] = a ++ (m.drop o).take (q + 1 - o) := by
                rw [HA9.out, List.append_assoc, take_on hoq hlt]
              rw [e9] at T2
              refine ⟨?_, hm1⟩
              (repeat apply Exists.intro)
              refine ⟨⟨q + 1, A', c - 1, .slice a2 (a9.length + 1) c2, by omega, hlt, fun i hi h1 h2 => ?_, T2, hbX, ((hK.trans (keeps_below bd)).trans k1).trans k2, ((hBl.trans (bd.mono hBl1)).trans l1).trans l2⟩, rfl⟩
              rcases Nat.lt_or_ge i q with h9 | h9
              · exact hless i hi h1 h9
              · obtain rfl : i = q := by omega
                exact hlq
            | false =>
              gi_wp2
              refine Qr.region_quiet_round (by kernel_rfl) mixed (by kernel_rfl) ?_
              repeat (quiet_step_in (fail))
              refine wpQuietIn_nil ?_
              intro _ hw'
              obtain ⟨nq, hw''⟩ := hw'
              subst hw''
              have hns : ∀ h : q < m.length, ¬ m[q].key.toList < x.1.key.toList := fun _ h => by
                rw [bytesLess_eq] at hb
                simp only [decide_eq_false_iff_not] at hb
                exact hb h
              have HST := Lib.hid (step_eq (a := a) HP.out hoq hqm hless hns)
              by_cases he : m[q].key = x.1.key
              · have he1 : (m[q].key.toList == x.1.key.toList) = true := by rw [he]; exact beq_self_eq_true _
                have HE := Lib.hid he
                obtain ⟨A', hcut, hrest⟩ := rest_cut HT.rest hlt
                rw [HAG.out, ← HN.out] at hcut
                clear he hns
                gi_wp2
                refine Qr.region_quiet_round (by kernel_rfl) mixed (by kernel_rfl) ?_
                repeat (quiet_step_in (fail))
                refine wpQuietIn_nil ?_
                intro _ hw'
                obtain ⟨nq2, hw''⟩ := hw'
                subst hw''
                gi_upto_region 10 with (fail)
                have bd : Below wr.heap.size wr (wr.drewN (nq + nq2)) := pw_below_drewN (Below.refl _ _) _
                have hXd := (bd.block Bx (Array.getElem?_eq_some_iff.1 bX2).1).trans bX2
                obtain ⟨T2, k2, l2⟩ := (HT.ofBelow bd).moved (by omega) (by omega) hlt hrest
                have K2 := (hK.trans (keeps_below bd)).trans k2
                have L2 := (hBl.trans (bd.mono hBl1)).trans l2
                have hXq := (Below.heap_setCell (wr.drewN (nq + nq2)) ⟨bo, 0, none⟩ (.slice A' (m.length - (q + 1)) (c - 1)) Bx (by show Bx ≠ bo; omega)).trans hXd
                have hfin := HST.out
                rw [next_eq hlt HE.out] at hfin
                obtain ⟨a9, ha9⟩ : ∃ a9, a9 = a ++ (m.drop o).take (q - o) := ⟨_, rfl⟩
                have hl9 : a9.length ≤ 400000 := by
                  rw [ha9, List.length_append, List.length_take, List.length_drop]
                  omega
                rw [← ha9] at T2 hfin
                clear ha9
                have HF := Lib.hid hfin
                clear hfin
                obtain ⟨Wq, hWq⟩ : ∃ Wq, Wq = (wr.drewN (nq + nq2)).setCell ⟨bo, 0, none⟩ (.slice A' (m.length - (q + 1)) (c - 1)) := ⟨_, rfl⟩
                rw [← hWq] at T2 K2 L2 hXq ⊢
                clear hWq
                clear y5 y6 f5 f6 b0 b1 b2
                have hszq : ba + 2 ≤ Wq.heap.size := by
                  have h3 := L2.size
                  have h4 := K2.size
                  omega
                have g0 : Wq.cell? ⟨Bx, 0, none⟩ = some (.string x.1.key) := blk_cell hXq 0
                have g1 : Wq.cell? ⟨Bx, 1, none⟩ = some (.string x.1.val) := blk_cell hXq 1
                have g2 : Wq.cell? ⟨Bx, 2, none⟩ = some (.bool x.1.gone) := blk_cell hXq 2
                cases hg : x.1.gone with
                | true =>
                  rw [hg] at g2
                  have HG := Lib.hid hg
                  clear hg
                  gi_wp2
                  refine ⟨K2.from _, L2, ⟨q + 1, A', c - 1, va, ?_⟩⟩
                  rw [HSN.out, HF.out, if_pos HG.out, List.append_nil]
                  exact ⟨rfl, T2⟩
                | false =>
                  rw [hg] at g2
                  have HG := Lib.hid hg
                  clear hg
                  obtain ⟨i0, hi0, hz0, hz1, hz2⟩ := info_parts infoP
                  obtain ⟨aa, ca, rfl, _⟩ := sliceE_of T2.row
                  have g6 : Wq.cell? ⟨ba, 0, none⟩ = some (.slice aa a9.length ca) := blk_cell T2.bA 0
                  have bt : Below Wq.heap.size Wq (Wq.alloc (.cells #[.string x.1.key, .string x.1.val] 96 (0, 0))) := below_alloc (Below.refl _ _) _
                  have HTt := T2.ofBelow bt
                  obtain ⟨v2, w2', hrun, hown2, hgrow2, _, _⟩ := run_append_own_at (P := Tryz.prog) (Wq.alloc (.cells #[.string x.1.key, .string x.1.val] 96 (0, 0))) (ba + 2) 33 33 96 i0 _ 2 32 Tryz.underlying33 hi0 hz0 hz1 hz2 rfl (by omega) (.slice aa a9.length ca) a9.length (flatP a9) HTt.row ⟨Wq.heap.size, 0, none⟩ 1 1 [.string x.1.key, .string x.1.val] rfl (World.news_of_block (cs := #[.string x.1.key, .string x.1.val]) (t := 96) (fr := (0, 0)) (heap_alloc_new Wq _)) (by simp [Value.oneCell']) (by unfold maxLen; omega) (by omega) (by rw [size_alloc]; omega)
                  obtain ⟨a2, c2, rfl, _⟩ := sliceE_of hown2
                  have hoLt2 : ∀ k, (Value.slice ao m.length co).ownBlock = some k → k < ba + 2 := fun k hk => Nat.lt_of_lt_of_le (hoLt k hk) (by omega)
                  have bA2 : w2'.heap[ba]? = some (.cells #[.slice aa a9.length ca] 33 (0, 0)) := (hgrow2.block ba (Array.getElem?_eq_some_iff.1 HTt.bA).1 (HTt.row_ne HTt.bA (by decide))).trans HTt.bA
                  have d6 : w2'.cell? ⟨ba, 0, none⟩ = some (.slice aa a9.length ca) := blk_cell bA2 0
                  have d8 : w2'.frozen? ⟨ba, 0, none⟩ = false := blk_frozen bA2 0
                  obtain ⟨T1, k1, l1⟩ := T2.appended ⟨x.1.key, x.1.val⟩ (by omega) (by omega) (by omega) hoLt2 bt hgrow2 hown2
                  gi_wp2_with (gi_at_builtin; refine wpListIn_append_run rfl _ _ _ rfl (.slice aa a9.length ca) (.slice (some ⟨Wq.heap.size, 0, none⟩) 1 1) rfl rfl hrun ?_)
                  refine ⟨(K2.trans k1).from _, L2.trans l1, ⟨q + 1, A', c - 1, .slice a2 (a9.length + 1) c2, ?_⟩⟩
                  rw [HSN.out, HF.out, if_neg (by rw [HG.out]; decide)]
                  exact ⟨rfl, T1⟩
              · have he1 : (m[q].key.toList == x.1.key.toList) = false := by simpa using fun e => he (bytes_ext e)
                have HE := Lib.hid he
                clear he hns
                gi_wp2
                refine Qr.region_quiet_round (by kernel_rfl) mixed (by kernel_rfl) ?_
                repeat (quiet_step_in (fail))
                refine wpQuietIn_nil ?_
                intro _ hw'
                obtain ⟨nq2, hw''⟩ := hw'
                subst hw''
                gi_upto_region 10 with (fail)
                have bd : Below wr.heap.size wr ((wr.drewN nq).drewN nq2) := pw_below_drewN (pw_below_drewN (Below.refl _ _) _) _
                have hXq := (bd.block Bx (Array.getElem?_eq_some_iff.1 bX2).1).trans bX2
                have T2 := HT.ofBelow bd
                have K2 := hK.trans (keeps_below bd)
                have L2 := hBl.trans (bd.mono hBl1)
                have hfin := HST.out
                rw [next_ne (fun _ => HE.out)] at hfin
                obtain ⟨a9, ha9⟩ : ∃ a9, a9 = a ++ (m.drop o).take (q - o) := ⟨_, rfl⟩
                have hl9 : a9.length ≤ 400000 := by
                  rw [ha9, List.length_append, List.length_take, List.length_drop]
                  omega
                rw [← ha9] at T2 hfin
                clear ha9
                have HF := Lib.hid hfin
                clear hfin
                obtain ⟨Wq, hWq⟩ : ∃ Wq, Wq = (wr.drewN nq).drewN nq2 := ⟨_, rfl⟩
                rw [← hWq] at T2 K2 L2 hXq ⊢
                clear hWq
                clear y5 y6 f5 f6 b0 b1 b2
                have hszq : ba + 2 ≤ Wq.heap.size := by
                  have h3 := L2.size
                  have h4 := K2.size
                  omega
                have g0 : Wq.cell? ⟨Bx, 0, none⟩ = some (.string x.1.key) := blk_cell hXq 0
                have g1 : Wq.cell? ⟨Bx, 1, none⟩ = some (.string x.1.val) := blk_cell hXq 1
                have g2 : Wq.cell? ⟨Bx, 2, none⟩ = some (.bool x.1.gone) := blk_cell hXq 2
                cases hg : x.1.gone with
                | true =>
                  rw [hg] at g2
                  have HG := Lib.hid hg
                  clear hg
                  gi_wp2
                  refine ⟨K2.from _, L2, ⟨q, A, c, va, ?_⟩⟩
                  rw [HSN.out, HF.out, if_pos HG.out, List.append_nil]
                  exact ⟨rfl, T2⟩
                | false =>
                  rw [hg] at g2
                  have HG := Lib.hid hg
                  clear hg
                  obtain ⟨i0, hi0, hz0, hz1, hz2⟩ := info_parts infoP
                  obtain ⟨aa, ca, rfl, _⟩ := sliceE_of T2.row
                  have g6 : Wq.cell? ⟨ba, 0, none⟩ = some (.slice aa a9.length ca) := blk_cell T2.bA 0
                  have bt : Below Wq.heap.size Wq (Wq.alloc (.cells #[.string x.1.key, .string x.1.val] 96 (0, 0))) := below_alloc (Below.refl _ _) _
                  have HTt := T2.ofBelow bt
                  obtain ⟨v2, w2', hrun, hown2, hgrow2, _, _⟩ := run_append_own_at (P := Tryz.prog) (Wq.alloc (.cells #[.string x.1.key, .string x.1.val] 96 (0, 0))) (ba + 2) 33 33 96 i0 _ 2 32 Tryz.underlying33 hi0 hz0 hz1 hz2 rfl (by omega) (.slice aa a9.length ca) a9.length (flatP a9) HTt.row ⟨Wq.heap.size, 0, none⟩ 1 1 [.string x.1.key, .string x.1.val] rfl (World.news_of_block (cs := #[.string x.1.key, .string x.1.val]) (t := 96) (fr := (0, 0)) (heap_alloc_new Wq _)) (by simp [Value.oneCell']) (by unfold maxLen; omega) (by omega) (by rw [size_alloc]; omega)
                  obtain ⟨a2, c2, rfl, _⟩ := sliceE_of hown2
                  have hoLt2 : ∀ k, (Value.slice ao m.length co).ownBlock = some k → k < ba + 2 := fun k hk => Nat.lt_of_lt_of_le (hoLt k hk) (by omega)
                  have bA2 : w2'.heap[ba]? = some (.cells #[.slice aa a9.length ca] 33 (0, 0)) := (hgrow2.block ba (Array.getElem?_eq_some_iff.1 HTt.bA).1 (HTt.row_ne HTt.bA (by decide))).trans HTt.bA
                  have d6 : w2'.cell? ⟨ba, 0, none⟩ = some (.slice aa a9.length ca) := blk_cell bA2 0
                  have d8 : w2'.frozen? ⟨ba, 0, none⟩ = false := blk_frozen bA2 0
                  obtain ⟨T1, k1, l1⟩ := T2.appended ⟨x.1.key, x.1.val⟩ (by omega) (by omega) (by omega) hoLt2 bt hgrow2 hown2
                  gi_wp2_with (gi_at_builtin; refine wpListIn_append_run rfl _ _ _ rfl (.slice aa a9.length ca) (.slice (some ⟨Wq.heap.size, 0, none⟩) 1 1) rfl rfl hrun ?_)
                  refine ⟨(K2.trans k1).from _, L2.trans l1, ⟨q, A, c, .slice a2 (a9.length + 1) c2, ?_⟩⟩
                  rw [HSN.out, HF.out, if_neg (by rw [HG.out]; decide)]
                  exact ⟨rfl, T1⟩
          · obtain rfl : q = m.length := by omega
            rw [Nat.sub_self] at y5
            gi_wp2
            refine Qr.region_quiet_round (by kernel_rfl) mixed (by kernel_rfl) ?_
            repeat (quiet_step_in (fail))
            refine wpQuietIn_nil ?_
            intro _ hw'
            obtain ⟨nq, hw''⟩ := hw'
            subst hw''
            have HST := Lib.hid (step_eq (a := a) HP.out hoq hqm hless (fun h => absurd h (Nat.lt_irrefl _)))
            gi_wp2
            refine Qr.region_quiet_round (by kernel_rfl) mixed (by kernel_rfl) ?_
            repeat (quiet_step_in (fail))
            refine wpQuietIn_nil ?_
            intro _ hw'
            obtain ⟨nq2, hw''⟩ := hw'
            subst hw''
            gi_upto_region 10 with (fail)
            have bd : Below wr.heap.size wr ((wr.drewN nq).drewN nq2) := pw_below_drewN (pw_below_drewN (Below.refl _ _) _) _
            have hXq := (bd.block Bx (Array.getElem?_eq_some_iff.1 bX2).1).trans bX2
            have T2 := HT.ofBelow bd
            have K2 := hK.trans (keeps_below bd)
            have L2 := hBl.trans (bd.mono hBl1)
            have hfin := HST.out
            rw [next_ne (fun h => absurd h (Nat.lt_irrefl _))] at hfin
            obtain ⟨a9, ha9⟩ : ∃ a9, a9 = a ++ (m.drop o).take (m.length - o) := ⟨_, rfl⟩
            have hl9 : a9.length ≤ 400000 := by
              rw [ha9, List.length_append, List.length_take, List.length_drop]
              omega
            rw [← ha9] at T2 hfin
            clear ha9
            have HF := Lib.hid hfin
            clear hfin
            obtain ⟨Wq, hWq⟩ : ∃ Wq, Wq = (wr.drewN nq).drewN nq2 := ⟨_, rfl⟩
            rw [← hWq] at T2 K2 L2 hXq ⊢
            clear hWq
            clear y5 y6 f5 f6 b0 b1 b2
            have hszq : ba + 2 ≤ Wq.heap.size := by
              have h3 := L2.size
              have h4 := K2.size
              omega
            have g0 : Wq.cell? ⟨Bx, 0, none⟩ = some (.string x.1.key) := blk_cell hXq 0
            have g1 : Wq.cell? ⟨Bx, 1, none⟩ = some (.string x.1.val) := blk_cell hXq 1
            have g2 : Wq.cell? ⟨Bx, 2, none⟩ = some (.bool x.1.gone) := blk_cell hXq 2
            cases hg : x.1.gone with
            | true =>
              rw [hg] at g2
              have HG := Lib.hid hg
              clear hg
              gi_wp2
              refine ⟨K2.from _, L2, ⟨m.length, A, c, va, ?_⟩⟩
              rw [HSN.out, HF.out, if_pos HG.out, List.append_nil]
              exact ⟨rfl, T2⟩
            | false =>
              rw [hg] at g2
              have HG := Lib.hid hg
              clear hg
              obtain ⟨i0, hi0, hz0, hz1, hz2⟩ := info_parts infoP
              obtain ⟨aa, ca, rfl, _⟩ := sliceE_of T2.row
              have g6 : Wq.cell? ⟨ba, 0, none⟩ = some (.slice aa a9.length ca) := blk_cell T2.bA 0
              have bt : Below Wq.heap.size Wq (Wq.alloc (.cells #[.string x.1.key, .string x.1.val] 96 (0, 0))) := below_alloc (Below.refl _ _) _
              have HTt := T2.ofBelow bt
              obtain ⟨v2, w2', hrun, hown2, hgrow2, _, _⟩ := run_append_own_at (P := Tryz.prog) (Wq.alloc (.cells #[.string x.1.key, .string x.1.val] 96 (0, 0))) (ba + 2) 33 33 96 i0 _ 2 32 Tryz.underlying33 hi0 hz0 hz1 hz2 rfl (by omega) (.slice aa a9.length ca) a9.length (flatP a9) HTt.row ⟨Wq.heap.size, 0, none⟩ 1 1 [.string x.1.key, .string x.1.val] rfl (World.news_of_block (cs := #[.string x.1.key, .string x.1.val]) (t := 96) (fr := (0, 0)) (heap_alloc_new Wq _)) (by simp [Value.oneCell']) (by unfold maxLen; omega) (by omega) (by rw [size_alloc]; omega)
              obtain ⟨a2, c2, rfl, _⟩ := sliceE_of hown2
              have hoLt2 : ∀ k, (Value.slice ao m.length co).ownBlock = some k → k < ba + 2 := fun k hk => Nat.lt_of_lt_of_le (hoLt k hk) (by omega)
              have bA2 : w2'.heap[ba]? = some (.cells #[.slice aa a9.length ca] 33 (0, 0)) := (hgrow2.block ba (Array.getElem?_eq_some_iff.1 HTt.bA).1 (HTt.row_ne HTt.bA (by decide))).trans HTt.bA
              have d6 : w2'.cell? ⟨ba, 0, none⟩ = some (.slice aa a9.length ca) := blk_cell bA2 0
              have d8 : w2'.frozen? ⟨ba, 0, none⟩ = false := blk_frozen bA2 0
              obtain ⟨T1, k1, l1⟩ := T2.appended ⟨x.1.key, x.1.val⟩ (by omega) (by omega) (by omega) hoLt2 bt hgrow2 hown2
              gi_wp2_with (gi_at_builtin; refine wpListIn_append_run rfl _ _ _ rfl (.slice aa a9.length ca) (.slice (some ⟨Wq.heap.size, 0, none⟩) 1 1) rfl rfl hrun ?_)
              refine ⟨(K2.trans k1).from _, L2.trans l1, ⟨m.length, A, c, .slice a2 (a9.length + 1) c2, ?_⟩⟩
              rw [HSN.out, HF.out, if_neg (by rw [HG.out]; decide)]
              exact ⟨rfl, T1⟩
    case done =>
      rintro D zs W hD hzs ⟨o, A, c, va, h1, H⟩ hK
      rw [hzs] at h1 H
      clear hzs
      have hsl := stOf_len key m lo
      obtain ⟨a1, ha1⟩ : ∃ a1, a1 = (stOf key m lo).1 := ⟨_, rfl⟩
      rw [← ha1] at H hsl
      have HA1 := Lib.hid ha1
      have H1 := Lib.hid h1
      clear ha1 h1
      have hfew := X.bt.few
      have hDl := (Array.getElem?_eq_some_iff.1 hK).1
      obtain ⟨v', w', hrun, hown, hgrow⟩ := app_rest H (by omega) (by omega)
      have d5 : W.cell? ⟨bo, 0, none⟩ = some (.slice A (m.length - o) c) := blk_cell H.bO 0
      have d6 : W.cell? ⟨ba, 0, none⟩ = some va := blk_cell H.bA 0
      have hK' : w'.heap[D]? = some (Obj.deferred (some [])) := (hgrow.block D (Array.getElem?_eq_some_iff.1 hK).1 (fun e => by
        have := row_cells_of H.row D e.symm hK
        cases this)).trans hK
      have hb' : Below w.heap.size w w' := H.low.grown hgrow H.low.size (fun k hk => Nat.le_trans (by omega) (H.row.lt k hk).1)
      gi_wp2_with (gi_at_builtin; refine wpListIn_append_run rfl _ _ _ rfl va (.slice A (m.length - o) c) rfl rfl hrun ?_)
      refine ⟨by simp, .inl ⟨_, _, rfl, run_takeDeferred hK', ?_⟩⟩
      have hrow2 := ownsRow_putObj hown (Obj.deferred none) hK' rfl
      rw [H1.out, ← HA1.out]
      exact ⟨_, results_tmp rfl _ _ _, v', rfl, rowE_base hrow2 (by omega), hb'.trans (belowK_b (w := w) (Nat.le_refl _) w' D _ _ (by have := bW0.size; omega) hK' rfl rfl)⟩
    case stop =>
      rintro D c pre W _ _ h _
      exact h.elim
end
end Go.Proofs.YtpniccllpfonfaaGreatDoor.St
