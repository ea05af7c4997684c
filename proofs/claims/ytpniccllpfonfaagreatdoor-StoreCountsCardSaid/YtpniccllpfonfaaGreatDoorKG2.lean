-- Texts of this session put together by a program of it (wip/pack.py).
import Derived.Test.YtpniccllpfonfaaGreatDoorKG1
import Derived.Laws.CopyOwn
import Derived.Lib.AppendZerosOnto
import Derived.Lib.Overlaps
import Derived.Lib.SliceRun
import Derived.Deep.AppendSrc
import Derived.Laws.Externs
import Derived.Laws.IdiomCopy
import Derived.Laws.NewBlocks
import Derived.Shelf.Spec.SlicesInsert
import Derived.Great.Walk
namespace Go.Proofs.YtpniccllpfonfaaGreatDoor.St
open Go Go.RowKit Go.Proofs.YtpniccllpfonfaaGreatDoorW.PrintWords Go.Proofs.YtpniccllpfonfaaGreatDoor.Wd
theorem run_copy_at {P : Program} (w : World) (dT sT ty elem : TypeId) (z g o dLen dCap : Nat) (a : Addr) (sLen sCap : Nat) (cur : Array Value) (t : TypeId) (cs : List Value)
    (hu : P.underlying dT = some (.slice elem)) (hs : (P.info? elem).map (·.size) = some z)
    (hg : w.heap[g]? = some (.cells cur t (0, 0))) (hn : cs.length = Nat.min sLen dLen * z)
    (hsrc : ∀ j v, cs[j]? = some v → w.cell? (a.add j) = some v) (hfit : o + cs.length ≤ cur.size) (h1 : ∀ v ∈ cs, v.oneCell' = true) :
    (Builtin.copy_ #[dT, sT] ty #[.slice (some ⟨g, o, none⟩) dLen dCap, .slice (some a) sLen sCap]).run P w =
      .ok (goInt (Nat.min sLen dLen)) (w.setRow g (splice cur.toList o cs).toArray) := by
  have hl := run_loadCells_list (P := P) w a cs hsrc
  have hst := run_storeCells_at P g o t cs 0 cur w hg (by simpa using hfit) h1
  simp only [Nat.add_zero] at hst
  cases hq : P.info? elem with
  | none => simp [hq] at hs
  | some i =>
    have hi : i.size = z := by simpa [hq] using hs
    rw [hn] at hl
    simp [Builtin.copy_, run_underlying hu, Builtin.lenOf, Builtin.firstCells, sizeOf, typeInfo, hq, hi, hl, hst, splice]
theorem splice_in {α : Type} (R us X : List α) (a z : Nat) (hu : us.length = z) (ha : a + z ≤ R.length) : (splice (splice R (a + z) X) a us).take (a + z + X.length) = R.take a ++ us ++ X := by
  unfold splice
  have e1 : (R.take (a + z) ++ (X ++ R.drop (a + z + X.length))).take a = R.take a := by
    rw [List.take_append_of_le_length (by simp; omega), List.take_take, Nat.min_eq_left (by omega)]
  have e2 : (R.take (a + z) ++ (X ++ R.drop (a + z + X.length))).drop (a + us.length) = X ++ R.drop (a + z + X.length) := by
    rw [hu, List.drop_append, List.drop_eq_nil_of_le (by simp; omega), List.length_take, Nat.min_eq_left ha, Nat.sub_self]
    simp
  rw [e1, e2, ← List.append_assoc, ← List.append_assoc, List.take_append_of_le_length (by simp; omega)]
  exact List.take_of_length_le (by simp; omega)
theorem splice_on {α : Type} (R us X : List α) (a z : Nat) (hu : us.length = z) (ha : a ≤ R.length) : (splice (splice R a us) (a + z) X).take (a + z + X.length) = R.take a ++ us ++ X := by
  unfold splice
  have e1 : (R.take a ++ (us ++ R.drop (a + us.length))).take (a + z) = R.take a ++ us := by
    rw [← List.append_assoc, List.take_append_of_le_length (by simp; omega)]
    exact List.take_of_length_le (by simp; omega)
  rw [e1, ← List.append_assoc, List.take_append_of_le_length (by simp; omega)]
  exact List.take_of_length_le (by simp; omega)
theorem infoP : (Tryz.prog.info? 96).map (fun i => (i.zero, i.size, i.bytes)) = some (some (Value.agg #[.string ⟨#[]⟩, .string ⟨#[]⟩]), 2, 32) := by kernel_rfl
section
variable {B : Nat} {w : World}
set_option maxRecDepth 100000 in
set_option maxHeartbeats 4000000 in
/-- At the end. -/
theorem pinsEnd {v : Value} {n gv : Nat} {xs us : List Value} {cs : Array Value} (h : w.ownsRow B 96 2 v n xs) (hn : n < 1000000) (hB : B ≤ w.heap.size) (hv : w.heap[gv]? = some (.cells cs 96 (0, 0))) (hcs : cs.toList = us) (hu : us.length = 2) (h1 : ∀ u ∈ us, u.oneCell' = true) :
    Calls Tryz.prog 125 #[v, .int .i64 (n : Int), .slice (some ⟨gv, 0, none⟩) 1 1] w fun e w' => ∃ v', e = .returned v' ∧ w'.ownsRow B 96 2 v' (n + 1) (xs ++ us) ∧ Turn w w' (fun k => v.ownBlock = some k) ∧ Grow w v v' := by
  obtain ⟨i0, hi0, hz0, hz1, hz2⟩ := info_parts infoP
  obtain ⟨a, c, rfl, hnc⟩ := sliceE_of h
  have hnews : ∀ j u, us[j]? = some u → w.cell? ((⟨gv, 0, none⟩ : Addr).add j) = some u := fun j u hj => by
    rw [add_zero_at]
    rw [← hcs] at hj
    have := blk_cell hv j
    rw [this]
    simpa using hj
  have fin : ∀ v2 w2, w2.ownsRow B 96 2 v2 (n + 1) (xs ++ us) → w.grownBy w2 (Value.slice a n c).ownBlock → (v2.ownBlock = (Value.slice a n c).ownBlock ∨ v2.ownBlock = some w.heap.size) → ∃ v', Ending.returned v2 = .returned v' ∧ w2.ownsRow B 96 2 v' (n + 1) (xs ++ us) ∧ Turn w w2 (fun k => (Value.slice a n c).ownBlock = some k) ∧ Grow w (Value.slice a n c) v' := fun v2 w2 hown2 hgrow2 hat2 =>
    ⟨v2, rfl, hown2, (Turn.refl w _).grown hgrow2 (fun k hk => .inl hk), fun k hk => by
      rcases hat2 with e | e
      · exact .inl (e ▸ hk)
      · rw [e] at hk
        exact .inr (by injection hk with hk; omega)⟩
  go_enter Tryz.func125, Tryz.ntmps125
  have i1 : (n : Int) ≤ (n : Int) := Int.le_refl _
  go_wp2_with (at_builtin; refine wpList_append_own_at _ rfl _ _ _ rfl B 96 i0 _ 2 32 Tryz.underlying33 hi0 hz0 hz1 hz2 rfl (by omega) (.slice a n c) n xs rfl h ⟨gv, 0, none⟩ 1 1 us rfl (by rw [hu]) hnews h1 (by unfold maxLen; omega) (by omega) hB ?_; intro v2 w2 hown2 hgrow2 _ hat2)
  all_goals
    go_ret
    first | exact fin _ _ hown2 hgrow2 hat2 | (have h10 : c = n := (by assumption); subst h10; exact fin _ _ hown2 hgrow2 hat2)
set_option maxRecDepth 100000 in
set_option maxHeartbeats 4000000 in
/-- There is room, ahead of something. -/
theorem pinsRoom {g n c i gv : Nat} {xs us : List Value} {cs cur : Array Value} (hg : w.heap[g]? = some (.cells cur 96 (0, 0))) (hcur : cur.size = c * 2) (hxs : cur.toList.take (n * 2) = xs) (hi : i < n) (hroom : n + 1 ≤ c) (hc63 : c ≤ maxLen) (hone : ∀ v ∈ xs, v.oneCell' = true)
    (hv : w.heap[gv]? = some (.cells cs 96 (0, 0))) (hcs : cs.toList = us) (hu : us.length = 2) (h1 : ∀ u ∈ us, u.oneCell' = true) (hne : gv ≠ g) :
    Calls Tryz.prog 125 #[.slice (some ⟨g, 0, none⟩) n c, .int .i64 (i : Int), .slice (some ⟨gv, 0, none⟩) 1 1] w fun e w' => e = .returned (.slice (some ⟨g, 0, none⟩) (n + 1) c) ∧ w' = (w.drew.setRow g (splice cur.toList ((i + 1) * 2) (xs.drop (i * 2))).toArray).setRow g (splice (splice cur.toList ((i + 1) * 2) (xs.drop (i * 2))) (i * 2) us).toArray := by
  have hxl : xs.length = n * 2 := by rw [← hxs, List.length_take, Array.length_toList, hcur]; omega
  have hsz : (Tryz.prog.info? 96).map (·.size) = some 2 := by
    obtain ⟨i0, hi0, hz0, hz1, hz2⟩ := info_parts infoP
    rw [hi0]; simp [hz1]
  have hcs0 : cs.size = 2 := by rw [← Array.length_toList, hcs, hu]
  have hov : ∀ lb cb, (callFunc 169 #[.slice (some ⟨gv, 0, none⟩) 1 1, .slice (some ⟨g, (i + 1) * 2, none⟩) lb cb]).run Tryz.prog w = .ok (.value (.bool false)) w := fun lb cb => by
    rw [run_callFunc_extern Tryz.func169 (by kernel_rfl) (by kernel_rfl) (by kernel_rfl) (e := Extern.SlicesOverlaps.overlaps #[33, 33] #[4]) (by kernel_rfl),
      Lib.run_overlaps_apart w 33 4 96 Tryz.underlying33 2 Tryz.sizeOf96 ⟨gv, 0, none⟩ ⟨g, (i + 1) * 2, none⟩ 1 1 lb cb hne 96 96 2 (c * 2) (by show w.shape? gv = _; simp [World.shape?, hv, hcs0]) (by show w.shape? g = _; simp [World.shape?, hg, hcur]) (by omega) (blk_frozen hv 0) (blk_frozen hv 2)]
    rfl
  have hdl : (xs.drop (i * 2)).length = (n - i) * 2 := by rw [List.length_drop, hxl]; omega
  have hcp1 : ∀ ty dc sc, (Builtin.copy_ #[33, 33] ty #[.slice (some ⟨g, (i + 1) * 2, none⟩) (n + 1 - (i + 1)) dc, .slice (some ⟨g, i * 2, none⟩) (n + 1 - i) sc]).run Tryz.prog w.drew = .ok (goInt ((n - i : Nat) : Int)) (w.drew.setRow g (splice cur.toList ((i + 1) * 2) (xs.drop (i * 2))).toArray) := fun ty dc sc => by
    have hmin : Nat.min (n + 1 - i) (n + 1 - (i + 1)) = n - i := by simp only [Nat.min_def]; split <;> omega
    have := run_copy_at (P := Tryz.prog) w.drew 33 33 ty 96 2 g ((i + 1) * 2) (n + 1 - (i + 1)) dc ⟨g, i * 2, none⟩ (n + 1 - i) sc cur 96 (xs.drop (i * 2)) Tryz.underlying33 hsz hg (by rw [hdl, hmin])
      (fun j v hj => by
        rw [Wd.add_at]
        show w.cell? _ = _
        rw [blk_cell hg, ← Array.getElem?_toList]
        rw [List.getElem?_drop, ← hxs, List.getElem?_take] at hj
        split at hj
        · exact hj
        · cases hj) (by rw [hdl, hcur]; omega) (fun v hv => hone v (List.mem_of_mem_drop hv))
    rw [this, hmin]
  obtain ⟨R1, hR1⟩ : ∃ R1, R1 = splice cur.toList ((i + 1) * 2) (xs.drop (i * 2)) := ⟨_, rfl⟩
  have hR1l : R1.length = c * 2 := by rw [hR1, length_splice _ _ _ (by rw [hdl, Array.length_toList, hcur]; omega), Array.length_toList, hcur]
  rw [← hR1] at hcp1 ⊢
  have hcp2 : ∀ (W : World), W = w.drew.setRow g R1.toArray → ∀ ty dc, (Builtin.copy_ #[33, 33] ty #[.slice (some ⟨g, i * 2, none⟩) (n + 1 - i) dc, .slice (some ⟨gv, 0, none⟩) 1 1]).run Tryz.prog W = .ok (goInt 1) (W.setRow g (splice R1 (i * 2) us).toArray) := fun W hW ty dc => by
    have hmin : Nat.min 1 (n + 1 - i) = 1 := by simp only [Nat.min_def]; split <;> omega
    have hgW : W.heap[g]? = some (.cells R1.toArray 96 (0, 0)) := by rw [hW]; exact setRow_heap _ g cur _ _ _ hg
    have hvW : W.heap[gv]? = some (.cells cs 96 (0, 0)) := by rw [hW]; exact (setRow_other _ g gv _ hne).trans hv
    have := run_copy_at (P := Tryz.prog) W 33 33 ty 96 2 g (i * 2) (n + 1 - i) dc ⟨gv, 0, none⟩ 1 1 R1.toArray 96 us Tryz.underlying33 hsz hgW (by rw [hu, hmin])
      (fun j v hj => by rw [add_zero_at, blk_cell hvW, ← Array.getElem?_toList, hcs]; exact hj) (by rw [hu, List.size_toArray, hR1l]; omega) h1
    rw [this, hmin]
    rfl
  have hw1 : IntKind.i64.wrap ((i : Int) + 1) = (i : Int) + 1 := by rw [IntKind.wrap_i64]; unfold maxLen at hc63; omega
  have hw2 : IntKind.i64.wrap ((n : Int) + 1) = (n : Int) + 1 := by rw [IntKind.wrap_i64]; unfold maxLen at hc63; omega
  have hb1 : (0 : Int) ≤ (i : Int) + 1 := by omega
  have htn : ((i : Int) + 1).toNat = i + 1 := by omega
  have htn2 : ((n : Int) + 1).toNat = n + 1 := by omega
  have hb0 : (0 : Int) ≤ (n : Int) + 1 := by omega
  have hb2 : ¬ (c = i + 1) := by omega
  have hb3 : (i : Int) ≤ (n : Int) + 1 := by omega
  have hb4 : ¬ (c = i) := by omega
  have hb5 : ¬ (c : Int) < (n : Int) + 1 := by omega
  have hb6 : (n : Int) + 1 ≤ (c : Int) := by omega
  have hin : i ≤ n := by omega
  have hne2 : ¬ (i : Int) = (n : Int) := by omega
  have HR := Lib.hid hR1
  clear hR1 hcs hxs hxl hcur hcs0 hdl hR1l hu
  go_enter Tryz.func125, Tryz.ntmps125
  go_wp2_with (simp only [hov])
  go_region_law (refine step_copy_runI rfl _ _ 33 33 rfl _ _ (by simp [Act.eval, Act.put]; rfl) (by simp [Act.eval, Act.put]; rfl) (hcp1 _ _ _) ?_)
  go_wp2_with (at_builtin; refine wpList_copy_runI _ rfl _ _ 33 33 rfl _ _ rfl rfl (hcp2 _ rfl _ _) ?_)
  go_ret
  exact ⟨rfl, rfl⟩
set_option maxRecDepth 100000 in
set_option maxHeartbeats 4000000 in
/-- There is no room, ahead of something: a new row. -/
theorem pinsGrow {g n c i gv : Nat} {xs us : List Value} {cs cur : Array Value} (hg : w.heap[g]? = some (.cells cur 96 (0, 0))) (hcur : cur.size = c * 2) (hxs : cur.toList.take (n * 2) = xs) (hi : i < n) (hnc : n ≤ c) (hroom : c < n + 1) (hn : n < 1000000) (hone : ∀ v ∈ xs, v.oneCell' = true)
    (hv : w.heap[gv]? = some (.cells cs 96 (0, 0))) (hcs : cs.toList = us) (hu : us.length = 2) (h1 : ∀ u ∈ us, u.oneCell' = true) :
    Calls Tryz.prog 125 #[.slice (some ⟨g, 0, none⟩) n c, .int .i64 (i : Int), .slice (some ⟨gv, 0, none⟩) 1 1] w fun e w' => ∃ G R, n + 1 ≤ G ∧ G ≤ maxLen ∧ R.length = G * 2 ∧ R.take (i * 2) = xs.take (i * 2) ∧ e = .returned (.slice (some ⟨w.heap.size, 0, none⟩) (n + 1) G) ∧ Below w.heap.size w w' ∧ w'.heap[w.heap.size]? = some (.cells (splice (splice R (i * 2) us) ((i + 1) * 2) (xs.drop (i * 2))).toArray 96 (0, 0)) := by
  have hxl : xs.length = n * 2 := by rw [← hxs, List.length_take, Array.length_toList, hcur]; omega
  obtain ⟨i0, hi0, hz0, hz1, hz2⟩ := info_parts infoP
  have hsz : (Tryz.prog.info? 96).map (·.size) = some 2 := by rw [hi0]; simp [hz1]
  have hdl : (xs.drop (i * 2)).length = (n - i) * 2 := by rw [List.length_drop, hxl]; omega
  have hgl : g < w.heap.size := (Array.getElem?_eq_some_iff.1 hg).1
  have hvl : gv < w.heap.size := (Array.getElem?_eq_some_iff.1 hv).1
  have hsrc : ∀ j v, xs[j]? = some v → w.cell? ⟨g, j, none⟩ = some v := fun j v hj => by
    rw [blk_cell hg, ← Array.getElem?_toList]
    rw [← hxs, List.getElem?_take] at hj
    split at hj
    · exact hj
    · cases hj
  have hold : (Builtin.firstCells i0.size i (.slice (some ⟨g, 0, none⟩) i c)).run Tryz.prog w.drew = .ok (xs.take (i * 2)).toArray w.drew := by
    rw [hz1]
    exact run_firstCells_some w.drew 2 i ⟨g, 0, none⟩ i c (xs.take (i * 2)) (by rw [List.length_take, hxl]; omega) (fun j v hj => by
      rw [add_zero_at]
      rw [List.getElem?_take] at hj
      split at hj
      · exact hsrc j v hj
      · cases hj)
  have hkk : (n : Int) + 1 - (i : Int) = ((n + 1 - i : Nat) : Int) := by omega
  have hik : i + (n + 1 - i) = n + 1 := by omega
  obtain ⟨G, hG⟩ : ∃ G, G = grownCap w (n + 1) c 96 := ⟨_, rfl⟩
  obtain ⟨ROW, hROW⟩ : ∃ ROW : Array Value, ROW = (xs.take (i * 2)).toArray ++ Builtin.zeroCells (Value.agg #[.string ⟨#[]⟩, .string ⟨#[]⟩]).cells (n + 1 - i) ++ Builtin.zeroCells (Value.agg #[.string ⟨#[]⟩, .string ⟨#[]⟩]).cells (G - (n + 1)) := ⟨_, rfl⟩
  have hrz : ∀ ty, (Builtin.append_ #[33, 3] ty #[.slice (some ⟨g, 0, none⟩) i c, .int .i64 ((n : Int) + 1 - (i : Int))]).run Tryz.prog w =
      .ok (.slice (some ⟨w.heap.size, 0, none⟩) (n + 1) G) (w.drew.alloc (.cells ROW 96)) := fun ty => by
    have h := Lib.run_append_grow_zeros w 33 3 ty 96 i0 _ .i64 .i64 Tryz.underlying33 Tryz.underlying3 hi0 hz0 (some ⟨g, 0, none⟩) i c (xs.take (i * 2)) hold (n + 1 - i) (by omega) (by omega) (by omega) (by omega) (by rw [hz2]; omega) (by rw [hz2, hik]; exact growslice_fits hroom (by omega))
    rw [hik] at h
    rw [hkk, hROW, hG]
    exact h
  have hGn : n + 1 ≤ G := by rw [hG]; exact grownCap_ge w _ _ _
  have hG63 : G ≤ maxLen := by
    have := grownCap_le_maxLen w (n + 1) c 96 (by unfold maxLen; omega)
    rw [← hG] at this
    exact this
  have hRl : ROW.size = G * 2 := by
    rw [hROW]
    simp [Builtin.zeroCells, Value.cells, hxl]
    omega
  have hRt : ROW.toList.take (i * 2) = xs.take (i * 2) := by
    rw [hROW, Array.toList_append, Array.toList_append, List.append_assoc]
    have e : (xs.take (i * 2)).length = i * 2 := by rw [List.length_take, hxl]; omega
    rw [List.take_append_of_le_length (by show i * 2 ≤ (xs.take (i * 2)).length; omega)]
    exact List.take_of_length_le (by show (xs.take (i * 2)).length ≤ _; omega)
  obtain ⟨R1, hR1⟩ : ∃ R1, R1 = splice ROW.toList (i * 2) us := ⟨_, rfl⟩
  have hR1l : R1.length = G * 2 := by rw [hR1, length_splice _ _ _ (by rw [hu, Array.length_toList, hRl]; omega), Array.length_toList, hRl]
  obtain ⟨R2, hR2⟩ : ∃ R2, R2 = splice R1 ((i + 1) * 2) (xs.drop (i * 2)) := ⟨_, rfl⟩
  obtain ⟨W1, hW1⟩ : ∃ W1, W1 = w.drew.alloc (.cells ROW 96) := ⟨_, rfl⟩
  have b1 : Below w.heap.size w W1 := by rw [hW1]; exact below_alloc (below_drew1 (Below.refl _ _)) _
  have n1 : W1.heap[w.heap.size]? = some (.cells ROW 96 (0, 0)) := by rw [hW1]; exact heap_alloc_new w.drew _
  have hcpA : ∀ (W : World), W = W1 → ∀ ty dc, (Builtin.copy_ #[33, 33] ty #[.slice (some ⟨w.heap.size, i * 2, none⟩) (n + 1 - i) dc, .slice (some ⟨gv, 0, none⟩) 1 1]).run Tryz.prog W = .ok (goInt 1) (W1.setRow w.heap.size R1.toArray) := fun W hW ty dc => by
    subst hW
    have hmin : Nat.min 1 (n + 1 - i) = 1 := by simp only [Nat.min_def]; split <;> omega
    have hvW : W.heap[gv]? = some (.cells cs 96 (0, 0)) := (b1.block gv hvl).trans hv
    have := run_copy_at (P := Tryz.prog) W 33 33 ty 96 2 w.heap.size (i * 2) (n + 1 - i) dc ⟨gv, 0, none⟩ 1 1 ROW 96 us Tryz.underlying33 hsz n1 (by rw [hu, hmin])
      (fun j v hj => by rw [add_zero_at, blk_cell hvW, ← Array.getElem?_toList, hcs]; exact hj) (by rw [hu, hRl]; omega) h1
    rw [this, hmin, hR1]
    rfl
  obtain ⟨W2, hW2⟩ : ∃ W2, W2 = W1.setRow w.heap.size R1.toArray := ⟨_, rfl⟩
  have n2 : W2.heap[w.heap.size]? = some (.cells R1.toArray 96 (0, 0)) := by rw [hW2]; exact setRow_heap _ _ ROW _ _ _ n1
  have b2 : Below w.heap.size w W2 := by rw [hW2]; exact below_setRow b1 (Nat.le_refl _) _
  have hcpB : ∀ (W : World), W = W2.drew → ∀ ty dc sc, (Builtin.copy_ #[33, 33] ty #[.slice (some ⟨w.heap.size, (i + 1) * 2, none⟩) (n + 1 - (i + 1)) dc, .slice (some ⟨g, i * 2, none⟩) (n - i) sc]).run Tryz.prog W = .ok (goInt ((n - i : Nat) : Int)) (W2.drew.setRow w.heap.size R2.toArray) := fun W hW ty dc sc => by
    subst hW
    have hmin : Nat.min (n - i) (n + 1 - (i + 1)) = n - i := by simp only [Nat.min_def]; split <;> omega
    have hgW : W2.drew.heap[g]? = some (.cells cur 96 (0, 0)) := (b2.block g hgl).trans hg
    have := run_copy_at (P := Tryz.prog) W2.drew 33 33 ty 96 2 w.heap.size ((i + 1) * 2) (n + 1 - (i + 1)) dc ⟨g, i * 2, none⟩ (n - i) sc R1.toArray 96 (xs.drop (i * 2)) Tryz.underlying33 hsz n2 (by rw [hdl, hmin])
      (fun j v hj => by
        rw [Wd.add_at, blk_cell hgW, ← Array.getElem?_toList]
        rw [List.getElem?_drop, ← hxs, List.getElem?_take] at hj
        split at hj
        · exact hj
        · cases hj) (by rw [hdl, List.size_toArray, hR1l]; omega) (fun v hv => hone v (List.mem_of_mem_drop hv))
    rw [this, hmin, hR2]
  have fin : ∃ R : List Value, n + 1 ≤ G ∧ G ≤ maxLen ∧ R.length = G * 2 ∧ R.take (i * 2) = xs.take (i * 2) ∧ Below w.heap.size w (W2.drew.setRow w.heap.size R2.toArray) ∧ (W2.drew.setRow w.heap.size R2.toArray).heap[w.heap.size]? = some (.cells (splice (splice R (i * 2) us) ((i + 1) * 2) (xs.drop (i * 2))).toArray 96 (0, 0)) :=
    ⟨ROW.toList, hGn, hG63, by rw [Array.length_toList, hRl], hRt, below_setRow (below_drew1 b2) (Nat.le_refl _) _, by rw [← hR1, ← hR2]; exact setRow_heap _ _ _ _ _ _ n2⟩
  have FIN := Lib.hid fin
  clear fin hG hROW hRl hRt hR1 hR1l hR2 hold hkk hik hxl hdl hsrc hcur hxs hcs hu n1 n2 b1 b2 hi0 hz0 hz1 hz2
  have hw1 : IntKind.i64.wrap ((i : Int) + 1) = (i : Int) + 1 := by rw [IntKind.wrap_i64]; omega
  have hb1 : (0 : Int) ≤ (i : Int) + 1 := by omega
  have htn : ((i : Int) + 1).toNat = i + 1 := by omega
  have hin : i ≤ n := by omega
  have hne2 : ¬ (i : Int) = (n : Int) := by omega
  have hb2 : ¬ (G = i + 1) := by omega
  have hb3 : (i : Int) ≤ (n : Int) := by omega
  have hb4 : ¬ (c = i) := by omega
  have hb5 : (c : Int) < (n : Int) + 1 := by omega
  have hb6 : ¬ (G = i) := by omega
  subst hW2
  subst hW1
  have hcpA1 := hcpA (w.alloc (.cells ROW 96)).drew rfl
  clear hcpA
  go_enter Tryz.func125, Tryz.ntmps125
  go_wp2_with (first
    | (at_builtin; refine Lib.wpList_append_run _ rfl _ _ _ _ rfl _ _ rfl rfl _ _ (hrz _) ?_)
    | fail)
  go_region_law (refine step_copy_runI rfl _ _ 33 33 rfl _ _ (by simp [Act.eval, Act.put]; rfl) (by simp [Act.eval, Act.put]; rfl) (hcpB _ rfl _ _ _) ?_)
  go_wp2
  go_ret
  obtain ⟨R, f1, f2, f3, f4, f5, f6⟩ := FIN.out
  exact ⟨G, R, f1, f2, f3, f4, rfl, f5, f6⟩
/-- Anywhere. -/
theorem pinsert_any {v : Value} {n i gv : Nat} {xs us : List Value} {cs : Array Value} (h : w.ownsRow B 96 2 v n xs) (hi : i ≤ n) (hn : n < 1000000) (hB : B ≤ w.heap.size) (hone : ∀ v ∈ xs, v.oneCell' = true) (hv : w.heap[gv]? = some (.cells cs 96 (0, 0))) (hcs : cs.toList = us) (hu : us.length = 2) (h1 : ∀ u ∈ us, u.oneCell' = true) (hne : v.ownBlock ≠ some gv) :
    Calls Tryz.prog 125 #[v, .int .i64 (i : Int), .slice (some ⟨gv, 0, none⟩) 1 1] w fun e w' => ∃ v', e = .returned v' ∧ w'.ownsRow B 96 2 v' (n + 1) (xs.take (i * 2) ++ us ++ xs.drop (i * 2)) ∧ Turn w w' (fun k => v.ownBlock = some k) ∧ Grow w v v' := by
  have hxl : xs.length = n * 2 := h.1
  rcases Nat.lt_or_ge i n with hlt | hge
  · rcases h.2 with ⟨_, h0⟩ | ⟨g, c, cur, rfl, hBg, hg, hnc, hc63, hcur, hxs⟩
    · omega
    · have hgne : gv ≠ g := fun e => hne (by rw [e]; rfl)
      have hdl : (xs.drop (i * 2)).length = (n - i) * 2 := by rw [List.length_drop, hxl]; omega
      have hfl : (xs.take (i * 2) ++ us ++ xs.drop (i * 2)).length = (n + 1) * 2 := by simp [hxl, hu]; omega
      rcases Nat.lt_or_ge c (n + 1) with hroom | hroom
      · refine (pinsGrow hg hcur hxs hlt hnc hroom hn hone hv hcs hu h1).mono ?_
        rintro e w' ⟨G, R, g1, g2, g3, g4, rfl, g5, g6⟩
        refine ⟨_, rfl, ⟨hfl, .inr ⟨w.heap.size, G, _, rfl, hB, g6, g1, g2, ?_, ?_⟩⟩, Turn.of_below g5 _, fun k hk => .inr (by injection hk with hk; show w.heap.size ≤ k; rw [← hk]; exact Nat.le_refl _)⟩
        · have e1 : (splice R (i * 2) us).length = R.length := length_splice _ _ _ (by rw [hu, g3]; omega)
          rw [List.size_toArray, length_splice _ _ _ (by rw [e1, hdl, g3]; omega), e1, g3]
        · have := splice_on R us (xs.drop (i * 2)) (i * 2) 2 hu (by rw [g3]; omega)
          rw [hdl, g4] at this
          rw [show (n + 1) * 2 = i * 2 + 2 + (n - i) * 2 by omega, show (i + 1) * 2 = i * 2 + 2 by omega]
          exact this
      · refine (pinsRoom hg hcur hxs hlt hroom hc63 hone hv hcs hu h1 hgne).mono ?_
        rintro e w' ⟨rfl, rfl⟩
        have e1 : (splice cur.toList ((i + 1) * 2) (xs.drop (i * 2))).length = c * 2 := by rw [length_splice _ _ _ (by rw [hdl, Array.length_toList, hcur]; omega), Array.length_toList, hcur]
        have n1 := setRow_heap w.drew g cur (splice cur.toList ((i + 1) * 2) (xs.drop (i * 2))).toArray 96 (0, 0) hg
        have n2 := setRow_heap _ g _ (splice (splice cur.toList ((i + 1) * 2) (xs.drop (i * 2))) (i * 2) us).toArray 96 (0, 0) n1
        refine ⟨_, rfl, ⟨hfl, .inr ⟨g, c, _, rfl, hBg, n2, hroom, hc63, ?_, ?_⟩⟩, ⟨rfl, rfl, rfl, by simp [World.setRow], fun k hk hne9 => ?_⟩, fun k hk => .inl hk⟩
        · rw [List.size_toArray, length_splice _ _ _ (by rw [e1, hu]; omega), e1]
        · have := splice_in cur.toList us (xs.drop (i * 2)) (i * 2) 2 hu (by rw [Array.length_toList, hcur]; omega)
          rw [hdl] at this
          have e2 : cur.toList.take (i * 2) = xs.take (i * 2) := by rw [← hxs, List.take_take, Nat.min_eq_left (by omega)]
          rw [e2] at this
          rw [show (n + 1) * 2 = i * 2 + 2 + (n - i) * 2 by omega, show (i + 1) * 2 = i * 2 + 2 by omega]
          exact this
        · have hkg : k ≠ g := fun e => hne9 (by show some g = some k; rw [e])
          exact (setRow_other _ g k _ hkg).trans (setRow_other _ g k _ hkg)
  · obtain rfl : i = n := by omega
    refine (pinsEnd h hn hB hv hcs hu h1).mono ?_
    rintro e w' ⟨v', rfl, g1, g2, g3⟩
    refine ⟨v', rfl, ?_, g2, g3⟩
    rw [List.take_of_length_le (by omega), List.drop_eq_nil_of_le (by omega), List.append_nil]
    exact g1
end
theorem infoC : (Tryz.prog.info? 93).map (fun i => (i.zero, i.size, i.bytes)) = some (some (Value.agg #[.string ⟨#[]⟩, .string ⟨#[]⟩, .bool false]), 3, 40) := by kernel_rfl
section
variable {B : Nat} {w : World}
set_option maxRecDepth 100000 in
set_option maxHeartbeats 4000000 in
/-- At the end. -/
theorem cinsEnd {v : Value} {n gv : Nat} {xs us : List Value} {cs : Array Value} (h : w.ownsRow B 93 3 v n xs) (hn : n < 1000000) (hB : B ≤ w.heap.size) (hv : w.heap[gv]? = some (.cells cs 93 (0, 0))) (hcs : cs.toList = us) (hu : us.length = 3) (h1 : ∀ u ∈ us, u.oneCell' = true) :
    Calls Tryz.prog 164 #[v, .int .i64 (n : Int), .slice (some ⟨gv, 0, none⟩) 1 1] w fun e w' => ∃ v', e = .returned v' ∧ w'.ownsRow B 93 3 v' (n + 1) (xs ++ us) ∧ Turn w w' (fun k => v.ownBlock = some k) ∧ Grow w v v' := by
  obtain ⟨i0, hi0, hz0, hz1, hz2⟩ := info_parts infoC
  obtain ⟨a, c, rfl, hnc⟩ := sliceE_of h
  have hnews : ∀ j u, us[j]? = some u → w.cell? ((⟨gv, 0, none⟩ : Addr).add j) = some u := fun j u hj => by
    rw [add_zero_at]
    rw [← hcs] at hj
    have := blk_cell hv j
    rw [this]
    simpa using hj
  have fin : ∀ v2 w2, w2.ownsRow B 93 3 v2 (n + 1) (xs ++ us) → w.grownBy w2 (Value.slice a n c).ownBlock → (v2.ownBlock = (Value.slice a n c).ownBlock ∨ v2.ownBlock = some w.heap.size) → ∃ v', Ending.returned v2 = .returned v' ∧ w2.ownsRow B 93 3 v' (n + 1) (xs ++ us) ∧ Turn w w2 (fun k => (Value.slice a n c).ownBlock = some k) ∧ Grow w (Value.slice a n c) v' := fun v2 w2 hown2 hgrow2 hat2 =>
    ⟨v2, rfl, hown2, (Turn.refl w _).grown hgrow2 (fun k hk => .inl hk), fun k hk => by
      rcases hat2 with e | e
      · exact .inl (e ▸ hk)
      · rw [e] at hk
        exact .inr (by injection hk with hk; omega)⟩
  go_enter Tryz.func164, Tryz.ntmps164
  have i1 : (n : Int) ≤ (n : Int) := Int.le_refl _
  go_wp2_with (at_builtin; refine wpList_append_own_at _ rfl _ _ _ rfl B 93 i0 _ 3 40 Tryz.underlying136 hi0 hz0 hz1 hz2 rfl (by omega) (.slice a n c) n xs rfl h ⟨gv, 0, none⟩ 1 1 us rfl (by rw [hu]) hnews h1 (by unfold maxLen; omega) (by omega) hB ?_; intro v2 w2 hown2 hgrow2 _ hat2)
  all_goals
    go_ret
    first | exact fin _ _ hown2 hgrow2 hat2 | (have h10 : c = n := (by assumption); subst h10; exact fin _ _ hown2 hgrow2 hat2)
set_option maxRecDepth 100000 in
set_option maxHeartbeats 4000000 in
/-- There is room, ahead of something. -/
theorem cinsRoom {g n c i gv : Nat} {xs us : List Value} {cs cur : Array Value} (hg : w.heap[g]? = some (.cells cur 93 (0, 0))) (hcur : cur.size = c * 3) (hxs : cur.toList.take (n * 3) = xs) (hi : i < n) (hroom : n + 1 ≤ c) (hc63 : c ≤ maxLen) (hone : ∀ v ∈ xs, v.oneCell' = true)
    (hv : w.heap[gv]? = some (.cells cs 93 (0, 0))) (hcs : cs.toList = us) (hu : us.length = 3) (h1 : ∀ u ∈ us, u.oneCell' = true) (hne : gv ≠ g) :
    Calls Tryz.prog 164 #[.slice (some ⟨g, 0, none⟩) n c, .int .i64 (i : Int), .slice (some ⟨gv, 0, none⟩) 1 1] w fun e w' => e = .returned (.slice (some ⟨g, 0, none⟩) (n + 1) c) ∧ w' = (w.drew.setRow g (splice cur.toList ((i + 1) * 3) (xs.drop (i * 3))).toArray).setRow g (splice (splice cur.toList ((i + 1) * 3) (xs.drop (i * 3))) (i * 3) us).toArray := by
  have hxl : xs.length = n * 3 := by rw [← hxs, List.length_take, Array.length_toList, hcur]; omega
  have hsz : (Tryz.prog.info? 93).map (·.size) = some 3 := by
    obtain ⟨i0, hi0, hz0, hz1, hz2⟩ := info_parts infoC
    rw [hi0]; simp [hz1]
  have hcs0 : cs.size = 3 := by rw [← Array.length_toList, hcs, hu]
  have hov : ∀ lb cb, (callFunc 198 #[.slice (some ⟨gv, 0, none⟩) 1 1, .slice (some ⟨g, (i + 1) * 3, none⟩) lb cb]).run Tryz.prog w = .ok (.value (.bool false)) w := fun lb cb => by
    rw [run_callFunc_extern Tryz.func198 (by kernel_rfl) (by kernel_rfl) (by kernel_rfl) (e := Extern.SlicesOverlaps.overlaps #[136, 136] #[4]) (by kernel_rfl),
      Lib.run_overlaps_apart w 136 4 93 Tryz.underlying136 3 Tryz.sizeOf93 ⟨gv, 0, none⟩ ⟨g, (i + 1) * 3, none⟩ 1 1 lb cb hne 93 93 3 (c * 3) (by show w.shape? gv = _; simp [World.shape?, hv, hcs0]) (by show w.shape? g = _; simp [World.shape?, hg, hcur]) (by omega) (blk_frozen hv 0) (blk_frozen hv 3)]
    rfl
  have hdl : (xs.drop (i * 3)).length = (n - i) * 3 := by rw [List.length_drop, hxl]; omega
  have hcp1 : ∀ ty dc sc, (Builtin.copy_ #[136, 136] ty #[.slice (some ⟨g, (i + 1) * 3, none⟩) (n + 1 - (i + 1)) dc, .slice (some ⟨g, i * 3, none⟩) (n + 1 - i) sc]).run Tryz.prog w.drew = .ok (goInt ((n - i : Nat) : Int)) (w.drew.setRow g (splice cur.toList ((i + 1) * 3) (xs.drop (i * 3))).toArray) := fun ty dc sc => by
    have hmin : Nat.min (n + 1 - i) (n + 1 - (i + 1)) = n - i := by simp only [Nat.min_def]; split <;> omega
    have := run_copy_at (P := Tryz.prog) w.drew 136 136 ty 93 3 g ((i + 1) * 3) (n + 1 - (i + 1)) dc ⟨g, i * 3, none⟩ (n + 1 - i) sc cur 93 (xs.drop (i * 3)) Tryz.underlying136 hsz hg (by rw [hdl, hmin])
      (fun j v hj => by
        rw [Wd.add_at]
        show w.cell? _ = _
        rw [blk_cell hg, ← Array.getElem?_toList]
        rw [List.getElem?_drop, ← hxs, List.getElem?_take] at hj
        split at hj
        · exact hj
        · cases hj) (by rw [hdl, hcur]; omega) (fun v hv => hone v (List.mem_of_mem_drop hv))
    rw [this, hmin]
  obtain ⟨R1, hR1⟩ : ∃ R1, R1 = splice cur.toList ((i + 1) * 3) (xs.drop (i * 3)) := ⟨_, rfl⟩
  have hR1l : R1.length = c * 3 := by rw [hR1, length_splice _ _ _ (by rw [hdl, Array.length_toList, hcur]; omega), Array.length_toList, hcur]
  rw [← hR1] at hcp1 ⊢
  have hcp2 : ∀ (W : World), W = w.drew.setRow g R1.toArray → ∀ ty dc, (Builtin.copy_ #[136, 136] ty #[.slice (some ⟨g, i * 3, none⟩) (n + 1 - i) dc, .slice (some ⟨gv, 0, none⟩) 1 1]).run Tryz.prog W = .ok (goInt 1) (W.setRow g (splice R1 (i * 3) us).toArray) := fun W hW ty dc => by
    have hmin : Nat.min 1 (n + 1 - i) = 1 := by simp only [Nat.min_def]; split <;> omega
    have hgW : W.heap[g]? = some (.cells R1.toArray 93 (0, 0)) := by rw [hW]; exact setRow_heap _ g cur _ _ _ hg
    have hvW : W.heap[gv]? = some (.cells cs 93 (0, 0)) := by rw [hW]; exact (setRow_other _ g gv _ hne).trans hv
    have := run_copy_at (P := Tryz.prog) W 136 136 ty 93 3 g (i * 3) (n + 1 - i) dc ⟨gv, 0, none⟩ 1 1 R1.toArray 93 us Tryz.underlying136 hsz hgW (by rw [hu, hmin])
      (fun j v hj => by rw [add_zero_at, blk_cell hvW, ← Array.getElem?_toList, hcs]; exact hj) (by rw [hu, List.size_toArray, hR1l]; omega) h1
    rw [this, hmin]
    rfl
  have hw1 : IntKind.i64.wrap ((i : Int) + 1) = (i : Int) + 1 := by rw [IntKind.wrap_i64]; unfold maxLen at hc63; omega
  have hw2 : IntKind.i64.wrap ((n : Int) + 1) = (n : Int) + 1 := by rw [IntKind.wrap_i64]; unfold maxLen at hc63; omega
  have hb1 : (0 : Int) ≤ (i : Int) + 1 := by omega
  have htn : ((i : Int) + 1).toNat = i + 1 := by omega
  have htn2 : ((n : Int) + 1).toNat = n + 1 := by omega
  have hb0 : (0 : Int) ≤ (n : Int) + 1 := by omega
  have hb2 : ¬ (c = i + 1) := by omega
  have hb3 : (i : Int) ≤ (n : Int) + 1 := by omega
  have hb4 : ¬ (c = i) := by omega
  have hb5 : ¬ (c : Int) < (n : Int) + 1 := by omega
  have hb6 : (n : Int) + 1 ≤ (c : Int) := by omega
  have hin : i ≤ n := by omega
  have hne2 : ¬ (i : Int) = (n : Int) := by omega
  have HR := Lib.hid hR1
  clear hR1 hcs hxs hxl hcur hcs0 hdl hR1l hu
  go_enter Tryz.func164, Tryz.ntmps164
  go_wp2_with (simp only [hov])
  go_region_law (refine step_copy_runI rfl _ _ 136 136 rfl _ _ (by simp [Act.eval, Act.put]; rfl) (by simp [Act.eval, Act.put]; rfl) (hcp1 _ _ _) ?_)
  go_wp2_with (at_builtin; refine wpList_copy_runI _ rfl _ _ 136 136 rfl _ _ rfl rfl (hcp2 _ rfl _ _) ?_)
  go_ret
  exact ⟨rfl, rfl⟩
set_option maxRecDepth 100000 in
set_option maxHeartbeats 4000000 in
/-- There is no room, ahead of something: a new row. -/
theorem cinsGrow {g n c i gv : Nat} {xs us : List Value} {cs cur : Array Value} (hg : w.heap[g]? = some (.cells cur 93 (0, 0))) (hcur : cur.size = c * 3) (hxs : cur.toList.take (n * 3) = xs) (hi : i < n) (hnc : n ≤ c) (hroom : c < n + 1) (hn : n < 1000000) (hone : ∀ v ∈ xs, v.oneCell' = true)
    (hv : w.heap[gv]? = some (.cells cs 93 (0, 0))) (hcs : cs.toList = us) (hu : us.length = 3) (h1 : ∀ u ∈ us, u.oneCell' = true) :
    Calls Tryz.prog 164 #[.slice (some ⟨g, 0, none⟩) n c, .int .i64 (i : Int), .slice (some ⟨gv, 0, none⟩) 1 1] w fun e w' => ∃ G R, n + 1 ≤ G ∧ G ≤ maxLen ∧ R.length = G * 3 ∧ R.take (i * 3) = xs.take (i * 3) ∧ e = .returned (.slice (some ⟨w.heap.size, 0, none⟩) (n + 1) G) ∧ Below w.heap.size w w' ∧ w'.heap[w.heap.size]? = some (.cells (splice (splice R (i * 3) us) ((i + 1) * 3) (xs.drop (i * 3))).toArray 93 (0, 0)) := by
  have hxl : xs.length = n * 3 := by rw [← hxs, List.length_take, Array.length_toList, hcur]; omega
  obtain ⟨i0, hi0, hz0, hz1, hz2⟩ := info_parts infoC
  have hsz : (Tryz.prog.info? 93).map (·.size) = some 3 := by rw [hi0]; simp [hz1]
  have hdl : (xs.drop (i * 3)).length = (n - i) * 3 := by rw [List.length_drop, hxl]; omega
  have hgl : g < w.heap.size := (Array.getElem?_eq_some_iff.1 hg).1
  have hvl : gv < w.heap.size := (Array.getElem?_eq_some_iff.1 hv).1
  have hsrc : ∀ j v, xs[j]? = some v → w.cell? ⟨g, j, none⟩ = some v := fun j v hj => by
    rw [blk_cell hg, ← Array.getElem?_toList]
    rw [← hxs, List.getElem?_take] at hj
    split at hj
    · exact hj
    · cases hj
  have hold : (Builtin.firstCells i0.size i (.slice (some ⟨g, 0, none⟩) i c)).run Tryz.prog w.drew = .ok (xs.take (i * 3)).toArray w.drew := by
    rw [hz1]
    exact run_firstCells_some w.drew 3 i ⟨g, 0, none⟩ i c (xs.take (i * 3)) (by rw [List.length_take, hxl]; omega) (fun j v hj => by
      rw [add_zero_at]
      rw [List.getElem?_take] at hj
      split at hj
      · exact hsrc j v hj
      · cases hj)
  have hkk : (n : Int) + 1 - (i : Int) = ((n + 1 - i : Nat) : Int) := by omega
  have hik : i + (n + 1 - i) = n + 1 := by omega
  obtain ⟨G, hG⟩ : ∃ G, G = grownCap w (n + 1) c 93 := ⟨_, rfl⟩
  obtain ⟨ROW, hROW⟩ : ∃ ROW : Array Value, ROW = (xs.take (i * 3)).toArray ++ Builtin.zeroCells (Value.agg #[.string ⟨#[]⟩, .string ⟨#[]⟩, .bool false]).cells (n + 1 - i) ++ Builtin.zeroCells (Value.agg #[.string ⟨#[]⟩, .string ⟨#[]⟩, .bool false]).cells (G - (n + 1)) := ⟨_, rfl⟩
  have hrz : ∀ ty, (Builtin.append_ #[136, 3] ty #[.slice (some ⟨g, 0, none⟩) i c, .int .i64 ((n : Int) + 1 - (i : Int))]).run Tryz.prog w =
      .ok (.slice (some ⟨w.heap.size, 0, none⟩) (n + 1) G) (w.drew.alloc (.cells ROW 93)) := fun ty => by
    have h := Lib.run_append_grow_zeros w 136 3 ty 93 i0 _ .i64 .i64 Tryz.underlying136 Tryz.underlying3 hi0 hz0 (some ⟨g, 0, none⟩) i c (xs.take (i * 3)) hold (n + 1 - i) (by omega) (by omega) (by omega) (by omega) (by rw [hz2]; omega) (by rw [hz2, hik]; exact growslice_fits hroom (by omega))
    rw [hik] at h
    rw [hkk, hROW, hG]
    exact h
  have hGn : n + 1 ≤ G := by rw [hG]; exact grownCap_ge w _ _ _
  have hG63 : G ≤ maxLen := by
    have := grownCap_le_maxLen w (n + 1) c 93 (by unfold maxLen; omega)
    rw [← hG] at this
    exact this
  have hRl : ROW.size = G * 3 := by
    rw [hROW]
    simp [Builtin.zeroCells, Value.cells, hxl]
    omega
  have hRt : ROW.toList.take (i * 3) = xs.take (i * 3) := by
    rw [hROW, Array.toList_append, Array.toList_append, List.append_assoc]
    have e : (xs.take (i * 3)).length = i * 3 := by rw [List.length_take, hxl]; omega
    rw [List.take_append_of_le_length (by show i * 3 ≤ (xs.take (i * 3)).length; omega)]
    exact List.take_of_length_le (by show (xs.take (i * 3)).length ≤ _; omega)
  obtain ⟨R1, hR1⟩ : ∃ R1, R1 = splice ROW.toList (i * 3) us := ⟨_, rfl⟩
  have hR1l : R1.length = G * 3 := by rw [hR1, length_splice _ _ _ (by rw [hu, Array.length_toList, hRl]; omega), Array.length_toList, hRl]
  obtain ⟨R2, hR2⟩ : ∃ R2, R2 = splice R1 ((i + 1) * 3) (xs.drop (i * 3)) := ⟨_, rfl⟩
  obtain ⟨W1, hW1⟩ : ∃ W1, W1 = w.drew.alloc (.cells ROW 93) := ⟨_, rfl⟩
  have b1 : Below w.heap.size w W1 := by rw [hW1]; exact below_alloc (below_drew1 (Below.refl _ _)) _
  have n1 : W1.heap[w.heap.size]? = some (.cells ROW 93 (0, 0)) := by rw [hW1]; exact heap_alloc_new w.drew _
  have hcpA : ∀ (W : World), W = W1 → ∀ ty dc, (Builtin.copy_ #[136, 136] ty #[.slice (some ⟨w.heap.size, i * 3, none⟩) (n + 1 - i) dc, .slice (some ⟨gv, 0, none⟩) 1 1]).run Tryz.prog W = .ok (goInt 1) (W1.setRow w.heap.size R1.toArray) := fun W hW ty dc => by
    subst hW
    have hmin : Nat.min 1 (n + 1 - i) = 1 := by simp only [Nat.min_def]; split <;> omega
    have hvW : W.heap[gv]? = some (.cells cs 93 (0, 0)) := (b1.block gv hvl).trans hv
    have := run_copy_at (P := Tryz.prog) W 136 136 ty 93 3 w.heap.size (i * 3) (n + 1 - i) dc ⟨gv, 0, none⟩ 1 1 ROW 93 us Tryz.underlying136 hsz n1 (by rw [hu, hmin])
      (fun j v hj => by rw [add_zero_at, blk_cell hvW, ← Array.getElem?_toList, hcs]; exact hj) (by rw [hu, hRl]; omega) h1
    rw [this, hmin, hR1]
    rfl
  obtain ⟨W2, hW2⟩ : ∃ W2, W2 = W1.setRow w.heap.size R1.toArray := ⟨_, rfl⟩
  have n2 : W2.heap[w.heap.size]? = some (.cells R1.toArray 93 (0, 0)) := by rw [hW2]; exact setRow_heap _ _ ROW _ _ _ n1
  have b2 : Below w.heap.size w W2 := by rw [hW2]; exact below_setRow b1 (Nat.le_refl _) _
  have hcpB : ∀ (W : World), W = W2.drew → ∀ ty dc sc, (Builtin.copy_ #[136, 136] ty #[.slice (some ⟨w.heap.size, (i + 1) * 3, none⟩) (n + 1 - (i + 1)) dc, .slice (some ⟨g, i * 3, none⟩) (n - i) sc]).run Tryz.prog W = .ok (goInt ((n - i : Nat) : Int)) (W2.drew.setRow w.heap.size R2.toArray) := fun W hW ty dc sc => by
    subst hW
    have hmin : Nat.min (n - i) (n + 1 - (i + 1)) = n - i := by simp only [Nat.min_def]; split <;> omega
    have hgW : W2.drew.heap[g]? = some (.cells cur 93 (0, 0)) := (b2.block g hgl).trans hg
    have := run_copy_at (P := Tryz.prog) W2.drew 136 136 ty 93 3 w.heap.size ((i + 1) * 3) (n + 1 - (i + 1)) dc ⟨g, i * 3, none⟩ (n - i) sc R1.toArray 93 (xs.drop (i * 3)) Tryz.underlying136 hsz n2 (by rw [hdl, hmin])
      (fun j v hj => by
        rw [Wd.add_at, blk_cell hgW, ← Array.getElem?_toList]
        rw [List.getElem?_drop, ← hxs, List.getElem?_take] at hj
        split at hj
        · exact hj
        · cases hj) (by rw [hdl, List.size_toArray, hR1l]; omega) (fun v hv => hone v (List.mem_of_mem_drop hv))
    rw [this, hmin, hR2]
  have fin : ∃ R : List Value, n + 1 ≤ G ∧ G ≤ maxLen ∧ R.length = G * 3 ∧ R.take (i * 3) = xs.take (i * 3) ∧ Below w.heap.size w (W2.drew.setRow w.heap.size R2.toArray) ∧ (W2.drew.setRow w.heap.size R2.toArray).heap[w.heap.size]? = some (.cells (splice (splice R (i * 3) us) ((i + 1) * 3) (xs.drop (i * 3))).toArray 93 (0, 0)) :=
    ⟨ROW.toList, hGn, hG63, by rw [Array.length_toList, hRl], hRt, below_setRow (below_drew1 b2) (Nat.le_refl _) _, by rw [← hR1, ← hR2]; exact setRow_heap _ _ _ _ _ _ n2⟩
  have FIN := Lib.hid fin
  clear fin hG hROW hRl hRt hR1 hR1l hR2 hold hkk hik hxl hdl hsrc hcur hxs hcs hu n1 n2 b1 b2 hi0 hz0 hz1 hz2
  have hw1 : IntKind.i64.wrap ((i : Int) + 1) = (i : Int) + 1 := by rw [IntKind.wrap_i64]; omega
  have hb1 : (0 : Int) ≤ (i : Int) + 1 := by omega
  have htn : ((i : Int) + 1).toNat = i + 1 := by omega
  have hin : i ≤ n := by omega
  have hne2 : ¬ (i : Int) = (n : Int) := by omega
  have hb2 : ¬ (G = i + 1) := by omega
  have hb3 : (i : Int) ≤ (n : Int) := by omega
  have hb4 : ¬ (c = i) := by omega
  have hb5 : (c : Int) < (n : Int) + 1 := by omega
  have hb6 : ¬ (G = i) := by omega
  subst hW2
  subst hW1
  have hcpA1 := hcpA (w.alloc (.cells ROW 93)).drew rfl
  clear hcpA
  go_enter Tryz.func164, Tryz.ntmps164
  go_wp2_with (first
    | (at_builtin; refine Lib.wpList_append_run _ rfl _ _ _ _ rfl _ _ rfl rfl _ _ (hrz _) ?_)
    | fail)
  go_region_law (refine step_copy_runI rfl _ _ 136 136 rfl _ _ (by simp [Act.eval, Act.put]; rfl) (by simp [Act.eval, Act.put]; rfl) (hcpB _ rfl _ _ _) ?_)
  go_wp2
  go_ret
  obtain ⟨R, f1, f2, f3, f4, f5, f6⟩ := FIN.out
  exact ⟨G, R, f1, f2, f3, f4, rfl, f5, f6⟩
/-- Anywhere. -/
theorem cinsert_any {v : Value} {n i gv : Nat} {xs us : List Value} {cs : Array Value} (h : w.ownsRow B 93 3 v n xs) (hi : i ≤ n) (hn : n < 1000000) (hB : B ≤ w.heap.size) (hone : ∀ v ∈ xs, v.oneCell' = true) (hv : w.heap[gv]? = some (.cells cs 93 (0, 0))) (hcs : cs.toList = us) (hu : us.length = 3) (h1 : ∀ u ∈ us, u.oneCell' = true) (hne : v.ownBlock ≠ some gv) :
    Calls Tryz.prog 164 #[v, .int .i64 (i : Int), .slice (some ⟨gv, 0, none⟩) 1 1] w fun e w' => ∃ v', e = .returned v' ∧ w'.ownsRow B 93 3 v' (n + 1) (xs.take (i * 3) ++ us ++ xs.drop (i * 3)) ∧ Turn w w' (fun k => v.ownBlock = some k) ∧ Grow w v v' := by
  have hxl : xs.length = n * 3 := h.1
  rcases Nat.lt_or_ge i n with hlt | hge
  · rcases h.2 with ⟨_, h0⟩ | ⟨g, c, cur, rfl, hBg, hg, hnc, hc63, hcur, hxs⟩
    · omega
    · have hgne : gv ≠ g := fun e => hne (by rw [e]; rfl)
      have hdl : (xs.drop (i * 3)).length = (n - i) * 3 := by rw [List.length_drop, hxl]; omega
      have hfl : (xs.take (i * 3) ++ us ++ xs.drop (i * 3)).length = (n + 1) * 3 := by simp [hxl, hu]; omega
      rcases Nat.lt_or_ge c (n + 1) with hroom | hroom
      · refine (cinsGrow hg hcur hxs hlt hnc hroom hn hone hv hcs hu h1).mono ?_
        rintro e w' ⟨G, R, g1, g2, g3, g4, rfl, g5, g6⟩
        refine ⟨_, rfl, ⟨hfl, .inr ⟨w.heap.size, G, _, rfl, hB, g6, g1, g2, ?_, ?_⟩⟩, Turn.of_below g5 _, fun k hk => .inr (by injection hk with hk; show w.heap.size ≤ k; rw [← hk]; exact Nat.le_refl _)⟩
        · have e1 : (splice R (i * 3) us).length = R.length := length_splice _ _ _ (by rw [hu, g3]; omega)
          rw [List.size_toArray, length_splice _ _ _ (by rw [e1, hdl, g3]; omega), e1, g3]
        · have := splice_on R us (xs.drop (i * 3)) (i * 3) 3 hu (by rw [g3]; omega)
          rw [hdl, g4] at this
          rw [show (n + 1) * 3 = i * 3 + 3 + (n - i) * 3 by omega, show (i + 1) * 3 = i * 3 + 3 by omega]
          exact this
      · refine (cinsRoom hg hcur hxs hlt hroom hc63 hone hv hcs hu h1 hgne).mono ?_
        rintro e w' ⟨rfl, rfl⟩
        have e1 : (splice cur.toList ((i + 1) * 3) (xs.drop (i * 3))).length = c * 3 := by rw [length_splice _ _ _ (by rw [hdl, Array.length_toList, hcur]; omega), Array.length_toList, hcur]
        have n1 := setRow_heap w.drew g cur (splice cur.toList ((i + 1) * 3) (xs.drop (i * 3))).toArray 93 (0, 0) hg
        have n2 := setRow_heap _ g _ (splice (splice cur.toList ((i + 1) * 3) (xs.drop (i * 3))) (i * 3) us).toArray 93 (0, 0) n1
        refine ⟨_, rfl, ⟨hfl, .inr ⟨g, c, _, rfl, hBg, n2, hroom, hc63, ?_, ?_⟩⟩, ⟨rfl, rfl, rfl, by simp [World.setRow], fun k hk hne9 => ?_⟩, fun k hk => .inl hk⟩
        · rw [List.size_toArray, length_splice _ _ _ (by rw [e1, hu]; omega), e1]
        · have := splice_in cur.toList us (xs.drop (i * 3)) (i * 3) 3 hu (by rw [Array.length_toList, hcur]; omega)
          rw [hdl] at this
          have e2 : cur.toList.take (i * 3) = xs.take (i * 3) := by rw [← hxs, List.take_take, Nat.min_eq_left (by omega)]
          rw [e2] at this
          rw [show (n + 1) * 3 = i * 3 + 3 + (n - i) * 3 by omega, show (i + 1) * 3 = i * 3 + 3 by omega]
          exact this
        · have hkg : k ≠ g := fun e => hne9 (by show some g = some k; rw [e])
          exact (setRow_other _ g k _ hkg).trans (setRow_other _ g k _ hkg)
  · obtain rfl : i = n := by omega
    refine (cinsEnd h hn hB hv hcs hu h1).mono ?_
    rintro e w' ⟨v', rfl, g1, g2, g3⟩
    refine ⟨v', rfl, ?_, g2, g3⟩
    rw [List.take_of_length_le (by omega), List.drop_eq_nil_of_le (by omega), List.append_nil]
    exact g1
end
end Go.Proofs.YtpniccllpfonfaaGreatDoor.St
namespace Go.Proofs.YtpniccllpfonfaaGreatDoor.St
open Go Go.RowKit Go.Proofs.YtpniccllpfonfaaGreatDoorW.PrintWords Go.Proofs.YtpniccllpfonfaaGreatDoor.Wd
theorem place_eq : ∀ (ks : List ByteArray) (key : ByteArray) (n : Nat), n ≤ ks.length → (∀ i (hi : i < ks.length), i < n → ks[i].toList < key.toList) → (∀ h : n < ks.length, ¬ ks[n].toList < key.toList) → place ks key = n
  | [], key, n, h, _, _ => by
    have : n = 0 := by simpa using h
    rw [this]; rfl
  | k :: ks, key, n, h, h1, h2 => by
    cases n with
    | zero =>
      have : ¬ k.toList < key.toList := h2 (by simp)
      simp [place, this]
    | succ n =>
      have hk : k.toList < key.toList := h1 0 (by simp) (by omega)
      have ih := place_eq ks key n (by simpa using h) (fun i hi hn => h1 (i + 1) (by simpa using hi) (by omega)) (fun hn => h2 (by simpa using hn))
      unfold place at ih ⊢
      rw [List.takeWhile_cons, if_pos (by simpa using hk), List.length_cons, ih]
structure Pr where
  key : ByteArray
  val : ByteArray
def cellsP (p : Pr) : List Value := [.string p.key, .string p.val]
def flatP (l : List Pr) : List Value := flat cellsP l
theorem flatP_get : ∀ (l : List Pr) (i j : Nat) (hi : i < l.length), j < 2 → (flatP l)[i * 2 + j]? = [Value.string l[i].key, .string l[i].val][j]?
  | p :: l, 0, j, _, hj => by
    have : j = 0 ∨ j = 1 := by omega
    rcases this with rfl | rfl <;> rfl
  | p :: l, i + 1, j, hi, hj => by
    have := flatP_get l i j (by simpa using hi) hj
    rw [show (i + 1) * 2 + j = (i * 2 + j) + 2 by omega]
    exact this
def keys (l : List Pr) : List ByteArray := l.map (·.key)
/-- While a place is sought. -/
def RPl (ks : List ByteArray) (key : ByteArray) (w : World) (vl vh : Value) (wr : World) : Prop :=
  ∃ lo hi : Nat, vl = .int .i64 (lo : Int) ∧ vh = .int .i64 (hi : Int) ∧ lo ≤ hi ∧ hi ≤ ks.length ∧ (∀ i (h : i < ks.length), i < lo → ks[i].toList < key.toList) ∧ (∀ i (h : i < ks.length), hi ≤ i → ¬ ks[i].toList < key.toList) ∧ wr = w
theorem mid1 (lo hi : Nat) (h : lo + hi < 1000000000) : wrap64 ((lo : Int) + (hi : Int)) = ((lo + hi : Nat) : Int) := by
  rw [← Int.natCast_add]
  exact wr_id _ (by omega) (by omega)
theorem mid2 (n : Nat) (h : n < 1000000000) : wrap64 ((n : Int) / 2) = ((n / 2 : Nat) : Int) := by
  rw [show (n : Int) / 2 = ((n / 2 : Nat) : Int) from (Int.natCast_ediv n 2).symm]
  exact wr_id _ (by omega) (by omega)
section
variable {B : Nat} {w : World}
set_option maxRecDepth 100000 in
set_option maxHeartbeats 8000000 in
theorem place_any {a : Option Addr} {c : Nat} {l : List Pr} (h : w.ownsRow B 96 2 (.slice a l.length c) l.length (flatP l)) (hs : Sorted (keys l)) (hl : l.length < 1000000) (key : ByteArray) :
    Calls Tryz.prog 67 #[.slice a l.length c, .string key] w fun e w' => e = .returned (.int .i64 (place (keys l) key : Int)) ∧ w' = w := by
  have hkl : (keys l).length = l.length := List.length_map ..
  go_enter Tryz.func67, Tryz.ntmps67
  go_wp2_with (fail)
  go_loopw [5, 6] (fun vl vh wr => RPl (keys l) key w vl vh wr) (fun vl vh _ => (intOf vh).toNat - (intOf vl).toNat)
  case atStart => exact ⟨0, l.length, rfl, rfl, Nat.zero_le _, by omega, fun i _ h => by omega, fun i h1 h2 => by omega, rfl⟩
  case round =>
    obtain ⟨lo, hi, rfl, rfl, hle, hhi, h1, h2, rfl⟩ := hrel
    by_cases hlt : lo < hi
    · have hb1 : lo + hi < 1000000000 := by omega
      have hl0 : 0 < l.length := by omega
      have hb2 : (lo + hi) / 2 < 1000000000 := by omega
      have m0 : lo ≤ (lo + hi) / 2 := by omega
      have m1 : (lo + hi) / 2 < hi := by omega
      obtain ⟨g, cur, rfl, _, _, _, hc⟩ := rowE_at h hl0
      obtain ⟨mid, hmid⟩ : ∃ mid, mid = (lo + hi) / 2 := ⟨_, rfl⟩
      rw [← hmid] at m0 m1 hb2
      have hml : mid < l.length := by omega
      have x0 : wr.cell? ⟨g, mid * 2, none⟩ = some (.string l[mid].key) := hc (mid * 2) _ (by rw [← Nat.add_zero (mid * 2), flatP_get l mid 0 hml (by decide)]; rfl)
      have hkm : (keys l)[mid]'(by omega) = l[mid].key := by simp [keys]
      have i0 : (0 : Int) ≤ (mid : Int) := by omega
      have i1 : (mid : Int) < (l.length : Int) := by omega
      have hm1 : mid + 1 ≤ hi := m1
      clear hc
      cases hb : Op.bytesLess l[mid].key.toList key.toList with
      | true =>
        have hlt2 : (keys l)[mid].toList < key.toList := by rw [hkm]; rw [bytesLess_eq] at hb; simpa using hb
        have S1 : ∀ i (h : i < (keys l).length), i < mid + 1 → (keys l)[i].toList < key.toList := fun i h hi => by
          rcases Nat.lt_or_ge i mid with h9 | h9
          · exact List.lt_trans (sorted_lt hs h9 (by omega)) hlt2
          · obtain rfl : i = mid := by omega
            exact hlt2
        clear hkm hlt2
        subst hmid
        go_wp2_with (fail)
        go_roundw
        case rel => exact ⟨(lo + hi) / 2 + 1, hi, by go_num, rfl, hm1, hhi, S1, h2, rfl⟩
        case measure => simp [intOf]; omega
      | false =>
        have hlt2 : ¬ (keys l)[mid].toList < key.toList := by rw [hkm]; rw [bytesLess_eq] at hb; simpa using hb
        have S2 : ∀ i (h : i < (keys l).length), mid ≤ i → ¬ (keys l)[i].toList < key.toList := fun i h hi h9 => by
          rcases Nat.lt_or_ge mid i with h8 | h8
          · exact hlt2 (List.lt_trans (sorted_lt hs h8 h) h9)
          · obtain rfl : i = mid := by omega
            exact hlt2 h9
        have hm2 : mid ≤ (keys l).length := by omega
        clear hkm hlt2
        subst hmid
        go_wp2_with (fail)
        go_roundw
        case rel => exact ⟨lo, (lo + hi) / 2, rfl, by go_num, m0, hm2, h1, S2, rfl⟩
        case measure => simp [intOf]; omega
    · obtain rfl : lo = hi := by omega
      have hp := place_eq (keys l) key lo (by omega) h1 (fun h => h2 lo h (Nat.le_refl _))
      have HP := Lib.hid hp
      clear hp
      go_wp2_with (fail)
      go_ret
      exact ⟨by rw [HP.out]; rfl, rfl⟩
end
end Go.Proofs.YtpniccllpfonfaaGreatDoor.St
namespace Go.Proofs.YtpniccllpfonfaaGreatDoor.St
open Go Go.RowKit Go.Proofs.YtpniccllpfonfaaGreatDoorW.PrintWords Go.Proofs.YtpniccllpfonfaaGreatDoor.Wd
structure Ch where
  key : ByteArray
  val : ByteArray
  gone : Bool
def cellsC (c : Ch) : List Value := [.string c.key, .string c.val, .bool c.gone]
theorem cellsC_len (c : Ch) : (cellsC c).length = 3 := rfl
theorem cellsC_one (c : Ch) : ∀ v ∈ cellsC c, v.oneCell' = true := by
  intro v hv
  simp only [cellsC, List.mem_cons, List.not_mem_nil, or_false] at hv
  rcases hv with rfl | rfl | rfl <;> rfl
theorem flat_one {α : Type} (f : α → List Value) (hf : ∀ x, ∀ v ∈ f x, v.oneCell' = true) (l : List α) : ∀ v ∈ flat f l, v.oneCell' = true := by
  intro v hv
  obtain ⟨x, _, hx⟩ := List.mem_flatMap.1 hv
  exact hf x v hx
def keysC (l : List Ch) : List ByteArray := l.map (·.key)
theorem keysC_len (l : List Ch) : (keysC l).length = l.length := List.length_map ..
/-- A batch of changes at block gb, its row vb. -/
structure Bt (B : Nat) (w : World) (gb : Nat) (vb : Value) (l : List Ch) : Prop where
  blk : w.heap[gb]? = some (.cells #[vb] 138 (0, 0))
  g0 : B ≤ gb
  row : w.ownsRow B 93 3 vb l.length (flat cellsC l)
  srt : Sorted (keysC l)
  few : l.length ≤ 2000
def BtS (gb : Nat) (vb : Value) (k : Nat) : Prop := k = gb ∨ vb.ownBlock = some k
/-- May a change be? -/
def fitsC (c : Ch) : Int := if c.key.size = 0 then 3 else if 200 < c.key.size ∨ 1048576 < c.val.size then 2 else 0
def thereC (l : List Ch) (key : ByteArray) : Bool := decide ((keysC l)[place (keysC l) key]? = some key)
/-- What a change makes of changes. -/
def chg (l : List Ch) (c : Ch) : Int × List Ch :=
  if fitsC c ≠ 0 then (fitsC c, l)
  else if thereC l c.key then (0, l.set (place (keysC l) c.key) c)
  else if 2000 ≤ l.length then (8, l)
  else (0, insAt l (place (keysC l) c.key) c)
theorem sorted_set {l : List Ch} (hs : Sorted (keysC l)) (c : Ch) (h : thereC l c.key = true) : Sorted (keysC (l.set (place (keysC l) c.key) c)) := by
  have h2 : (l.map (·.key))[place (keysC l) c.key]? = some c.key := of_decide_eq_true h
  have e : keysC (l.set (place (keysC l) c.key) c) = keysC l := map_set_same Ch.key l (place (keysC l) c.key) c h2
  rw [e]
  exact hs
section
variable {B : Nat} {w w' : World} {gb : Nat} {vb : Value} {l : List Ch}
theorem Bt.lt (H : Bt B w gb vb l) : gb < w.heap.size := (Array.getElem?_eq_some_iff.1 H.blk).1
theorem Bt.turn {S : Nat → Prop} (H : Bt B w gb vb l) (hk : Turn w w' S) (hS : ∀ k, BtS gb vb k → ¬ S k) : Bt B w' gb vb l :=
  ⟨(hk.block H.lt (hS _ (.inl rfl))).trans H.blk, H.g0, rowE_turn H.row hk (fun k e => hS k (.inr e)), H.srt, H.few⟩
theorem Bt.ofBelow (H : Bt B w gb vb l) (hb : Below w.heap.size w w') : Bt B w' gb vb l := H.turn (Turn.of_below hb (fun _ => False)) (fun _ _ => id)
theorem Bt.geB (H : Bt B w gb vb l) : ∀ k, BtS gb vb k → B ≤ k := by
  rintro k (e | e)
  · rw [e]; exact H.g0
  · exact (H.row.lt k e).1
theorem Bt.ltS (H : Bt B w gb vb l) : ∀ k, BtS gb vb k → k < w.heap.size := by
  rintro k (e | e)
  · rw [e]; exact H.lt
  · exact (H.row.lt k e).2
theorem Bt.own_ne (H : Bt B w gb vb l) : ∀ k, vb.ownBlock = some k → k ≠ gb := fun k hk e => rowE_ne H.row H.blk (by decide) (e ▸ hk)
set_option maxRecDepth 100000 in
set_option maxHeartbeats 2000000 in
theorem bnew_any (hB : B ≤ w.heap.size) : Calls Tryz.prog 42 #[] w fun e w' => e = .returned (.pointer (some ⟨w.heap.size, 0, none⟩)) ∧ Bt B w' w.heap.size (.slice none 0 0) [] ∧ Below w.heap.size w w' := by
  go_enter Tryz.func42, Tryz.ntmps42
  go_wp2_with (fail)
  go_ret
  exact ⟨rfl, ⟨heap_alloc_new w _, hB, ⟨rfl, .inl ⟨rfl, rfl⟩⟩, sorted_nil, by simp⟩, below_alloc (Below.refl _ _) _⟩
set_option maxRecDepth 100000 in
set_option maxHeartbeats 4000000 in
theorem fits_any (c : Ch) : Calls Tryz.prog 163 #[.agg #[.string c.key, .string c.val, .bool c.gone]] w fun e w' => e = .returned (.int .i64 (fitsC c)) ∧ Below w.heap.size w w' := by
  have hE : c.key.toList.isEmpty = decide (c.key.size = 0) := by
    have h1 : c.key.size = c.key.toList.length := by rw [ByteArray.toList_eq]; exact Array.length_toList.symm
    rw [h1]
    cases c.key.toList <;> simp
  have A := Lib.hid (show c.key.toList.isEmpty = true → fitsC c = 3 from fun h => by
    rw [hE] at h
    rw [fitsC, if_pos (of_decide_eq_true h)])
  have A2 := Lib.hid (show c.key.toList.isEmpty = false → (200 < (c.key.size : Int) ∨ 1048576 < (c.val.size : Int)) → fitsC c = 2 from fun h h2 => by
    rw [hE] at h
    rw [fitsC, if_neg (of_decide_eq_false h), if_pos (by omega)])
  have A3 := Lib.hid (show c.key.toList.isEmpty = false → ((c.key.size : Int) ≤ 200 ∧ (c.val.size : Int) ≤ 1048576) → fitsC c = 0 from fun h h2 => by
    rw [hE] at h
    rw [fitsC, if_neg (of_decide_eq_false h), if_neg (by omega)])
  clear hE
  go_enter Tryz.func163, Tryz.ntmps163
  go_wp2_with (fail)
  all_goals
    go_ret
    refine ⟨?_, below_alloc (Below.refl _ _) _⟩
    first
    | rw [A.out (by assumption)]; rfl
    | rw [A2.out (by assumption) (by first | assumption | exact .inl (by assumption))]; rfl
    | rw [A3.out (by assumption) (by assumption)]; rfl
def RPn (ks : List ByteArray) (key : ByteArray) (w : World) (vl vh : Value) (wr : World) : Prop :=
  ∃ lo hi n : Nat, vl = .int .i64 (lo : Int) ∧ vh = .int .i64 (hi : Int) ∧ lo ≤ hi ∧ hi ≤ ks.length ∧ (∀ i (h : i < ks.length), i < lo → ks[i].toList < key.toList) ∧ (∀ i (h : i < ks.length), hi ≤ i → ¬ ks[i].toList < key.toList) ∧ wr = w.drewN n
set_option maxRecDepth 100000 in
set_option maxHeartbeats 8000000 in
theorem bplace_any (H : Bt B w gb vb l) (key : ByteArray) :
    Calls Tryz.prog 91 #[.pointer (some ⟨gb, 0, none⟩), .string key] w fun e w' => e = .returned (.tuple #[.int .i64 (place (keysC l) key : Int), .bool (thereC l key)]) ∧ ∃ m, w' = w.drewN m := by
  obtain ⟨a, c, rfl, _⟩ := sliceE_of H.row
  have hkl := keysC_len l
  have hl := H.few
  have hs := H.srt
  have c0 : w.cell? ⟨gb, 0, none⟩ = some (.slice a l.length c) := blk_cell H.blk 0
  have hrow := H.row
  have hg9 : ∀ i (hi : i < l.length), ∃ g, a = some ⟨g, 0, none⟩ ∧ w.cell? ⟨g, i * 3, none⟩ = some (.string l[i].key) := fun i hi => by
    obtain ⟨g, cur, rfl, _, _, _, hc⟩ := rowE_at hrow (by omega)
    exact ⟨g, rfl, hc (i * 3) _ (by rw [← Nat.add_zero (i * 3), flat_get cellsC 3 cellsC_len l i 0 hi (by decide)]; rfl)⟩
  clear H hrow
  go_enter Tryz.func91, Tryz.ntmps91
  go_wp2_with (fail)
  go_quiet (fail)
  go_wp2_with (fail)
  go_loopw [6, 7] (fun vl vh wr => RPn (keysC l) key w vl vh wr) (fun vl vh _ => (intOf vh).toNat - (intOf vl).toNat)
  case atStart => exact ⟨0, l.length, nq, rfl, rfl, Nat.zero_le _, by omega, fun i _ h => by omega, fun i h1 h2 => by omega, rfl⟩
  case round =>
    obtain ⟨lo, hi, n, rfl, rfl, hle, hhi, h1, h2, rfl⟩ := hrel
    by_cases hlt : lo < hi
    · have hb1 : lo + hi < 1000000000 := by omega
      have hb2 : (lo + hi) / 2 < 1000000000 := by omega
      have m0 : lo ≤ (lo + hi) / 2 := by omega
      have m1 : (lo + hi) / 2 < hi := by omega
      obtain ⟨mid, hmid⟩ : ∃ mid, mid = (lo + hi) / 2 := ⟨_, rfl⟩
      rw [← hmid] at m0 m1 hb2
      have hml : mid < l.length := by omega
      obtain ⟨g, rfl, x0⟩ := hg9 mid hml
      have hkm : (keysC l)[mid]'(by omega) = l[mid].key := by simp [keysC]
      have i0 : (0 : Int) ≤ (mid : Int) := by omega
      have i1 : (mid : Int) < (l.length : Int) := by omega
      have hm1 : mid + 1 ≤ hi := m1
      clear hg9
      cases hb : Op.bytesLess l[mid].key.toList key.toList with
      | true =>
        have hlt2 : (keysC l)[mid].toList < key.toList := by rw [hkm]; rw [bytesLess_eq] at hb; simpa using hb
        have S1 : ∀ i (h : i < (keysC l).length), i < mid + 1 → (keysC l)[i].toList < key.toList := fun i h hi => by
          rcases Nat.lt_or_ge i mid with h9 | h9
          · exact List.lt_trans (sorted_lt hs h9 (by omega)) hlt2
          · obtain rfl : i = mid := by omega
            exact hlt2
        clear hkm hlt2
        subst hmid
        go_wp2_with (fail)
        go_roundw
        case rel => exact ⟨(lo + hi) / 2 + 1, hi, n, by go_num, rfl, hm1, hhi, S1, h2, rfl⟩
        case measure => simp [intOf]; omega
      | false =>
        have hlt2 : ¬ (keysC l)[mid].toList < key.toList := by rw [hkm]; rw [bytesLess_eq] at hb; simpa using hb
        have S2 : ∀ i (h : i < (keysC l).length), mid ≤ i → ¬ (keysC l)[i].toList < key.toList := fun i h hi h9 => by
          rcases Nat.lt_or_ge mid i with h8 | h8
          · exact hlt2 (List.lt_trans (sorted_lt hs h8 h) h9)
          · obtain rfl : i = mid := by omega
            exact hlt2 h9
        have hm2 : mid ≤ (keysC l).length := by omega
        clear hkm hlt2
        subst hmid
        go_wp2_with (fail)
        go_roundw
        case rel => exact ⟨lo, (lo + hi) / 2, n, rfl, by go_num, m0, hm2, h1, S2, rfl⟩
        case measure => simp [intOf]; omega
    · obtain rfl : lo = hi := by omega
      have hp := place_eq (keysC l) key lo (by omega) h1 (fun h => h2 lo h (Nat.le_refl _))
      rw [hkl] at hhi
      clear h1 h2
      by_cases hlo : lo < l.length
      · obtain ⟨g, rfl, x0⟩ := hg9 lo hlo
        have i0 : (0 : Int) ≤ (lo : Int) := by omega
        have i1 : (lo : Int) < (l.length : Int) := by omega
        have ht : thereC l key = (l[lo].key.toList == key.toList) := by
          unfold thereC
          rw [hp, keysC, List.getElem?_map, List.getElem?_eq_getElem hlo]
          by_cases e : l[lo].key = key
          · simp [e]
          · have : ¬ l[lo].key.toList = key.toList := fun h => e (bytes_ext h)
            simp [e, this]
        have HP := Lib.hid hp
        have HT := Lib.hid ht
        clear hp ht hg9
        go_wp2_with (fail)
        go_quiet (fail)
        go_wp2_with (fail)
        go_ret2
        exact ⟨by rw [HP.out, HT.out]; rfl, _, World.drewN_drewN ..⟩
      · have ht : thereC l key = false := by
          unfold thereC
          rw [hp, List.getElem?_eq_none (by omega)]
          rfl
        have HP := Lib.hid hp
        have HT := Lib.hid ht
        have i1 : ¬ (lo : Int) < (l.length : Int) := by omega
        clear hp ht hg9
        go_wp2_with (fail)
        go_quiet (fail)
        go_wp2_with (fail)
        go_ret2
        exact ⟨by rw [HP.out, HT.out]; rfl, _, World.drewN_drewN ..⟩
end
end Go.Proofs.YtpniccllpfonfaaGreatDoor.St
namespace Go.Proofs.YtpniccllpfonfaaGreatDoor.St
open Go Go.RowKit Go.Proofs.YtpniccllpfonfaaGreatDoorW.PrintWords Go.Proofs.YtpniccllpfonfaaGreatDoor.Wd
section
variable {B : Nat} {w w' : World} {gb : Nat} {vb : Value} {l : List Ch}
theorem turn_drewN (w : World) (m : Nat) : Turn w (w.drewN m) (fun _ => False) := Turn.of_below (pw_below_drewN (Below.refl _ _) _) _
theorem Bt.still {w1 W : World} (H : Bt B w gb vb l) (hT : Turn W w1 (fun k => vb.ownBlock = some k)) (hb : Below w.heap.size w W) : w1.heap[gb]? = some (.cells #[vb] 138 (0, 0)) :=
  (hT.block (H.ofBelow hb).lt (fun e => H.own_ne gb e rfl)).trans (H.ofBelow hb).blk
theorem Bt.ins {w1 W : World} {v3 : Value} {p : Nat} (H : Bt B w gb vb l) (hT : Turn W w1 (fun k => vb.ownBlock = some k)) (hb : Below w.heap.size w W) (hG : Grow W vb v3) (c : Ch) (hr : w1.ownsRow B 93 3 v3 (l.length + 1) ((flat cellsC l).take (p * 3) ++ cellsC c ++ (flat cellsC l).drop (p * 3))) (hp : p ≤ l.length) (hs : Sorted (keysC (insAt l p c))) (hf : ¬ 2000 ≤ l.length) :
    Bt B (w1.setCell ⟨gb, 0, none⟩ v3) gb v3 (insAt l p c) ∧ Turn w (w1.setCell ⟨gb, 0, none⟩ v3) (BtS gb vb) ∧ Grow w vb v3 := by
  have hbs := hb.size
  have t1 : Turn w w1 (BtS gb vb) := (Turn.of_below hb _).then_ hT (fun k hk => .inl (.inr hk))
  have hd := H.still hT hb
  refine ⟨⟨?_, H.g0, ?_, hs, by rw [insAt_len]; omega⟩, t1.setCell (p := ⟨gb, 0, none⟩) (.inl (.inl rfl)) _, fun k hk => ?_⟩
  · have := blk_set hd 0 v3
    simpa using this
  · rw [insAt_len, flat_ins cellsC 3 cellsC_len l p hp c]
    exact rowE_of hr fun k hk => Below.heap_setCell w1 ⟨gb, 0, none⟩ _ k (fun e => rowE_ne hr hd (by decide) (by rw [← show k = gb from e]; exact hk))
  · rcases hG k hk with h | h
    · exact .inl h
    · exact .inr (by omega)
/-- A change put over another. -/
theorem Bt.over {g cc p : Nat} (H : Bt B w gb (.slice (some ⟨g, 0, none⟩) l.length cc) l) (hp : p < l.length) (c : Ch) (hs : Sorted (keysC (l.set p c))) :
    Bt B (((w.setCell ⟨g, p * 3, none⟩ (.string c.key)).setCell ⟨g, p * 3 + 1, none⟩ (.string c.val)).setCell ⟨g, p * 3 + 2, none⟩ (.bool c.gone)) gb (.slice (some ⟨g, 0, none⟩) l.length cc) (l.set p c) ∧ Turn w (((w.setCell ⟨g, p * 3, none⟩ (.string c.key)).setCell ⟨g, p * 3 + 1, none⟩ (.string c.val)).setCell ⟨g, p * 3 + 2, none⟩ (.bool c.gone)) (BtS gb (.slice (some ⟨g, 0, none⟩) l.length cc)) := by
  have tw : Turn w (((w.setCell ⟨g, p * 3, none⟩ (.string c.key)).setCell ⟨g, p * 3 + 1, none⟩ (.string c.val)).setCell ⟨g, p * 3 + 2, none⟩ (.bool c.gone)) (fun k => k = g) :=
    (((Turn.refl w (fun k => k = g)).setCell (p := ⟨g, p * 3, none⟩) (.inl rfl) _).setCell (p := ⟨g, p * 3 + 1, none⟩) (.inl rfl) _).setCell (p := ⟨g, p * 3 + 2, none⟩) (.inl rfl) _
  have hgg : gb ≠ g := fun e => H.own_ne g rfl e.symm
  have hfl := flat_len cellsC 3 cellsC_len l
  have r := rowE_set (rowE_set (rowE_set H.row (i := p * 3) (.string c.key) (by omega)) (i := p * 3 + 1) (.string c.val) (by omega)) (i := p * 3 + 2) (.bool c.gone) (by omega)
  rw [set3 _ (p * 3) _ _ _ (by omega)] at r
  have e : flat cellsC (l.set p c) = (flat cellsC l).take (p * 3) ++ [.string c.key, .string c.val, .bool c.gone] ++ (flat cellsC l).drop (p * 3 + 3) := by
    rw [flat_set cellsC 3 cellsC_len l p hp c, show (p + 1) * 3 = p * 3 + 3 by omega]
    rfl
  refine ⟨⟨(tw.block H.lt hgg).trans H.blk, H.g0, ?_, hs, by rw [List.length_set]; exact H.few⟩, tw.mono (fun k hk => .inr (by rw [hk]; rfl))⟩
  rw [List.length_set, e]
  exact r
set_option maxRecDepth 100000 in
set_option maxHeartbeats 8000000 in
theorem change_any (H : Bt B w gb vb l) (hB : B ≤ w.heap.size) (c : Ch) :
    Calls Tryz.prog 122 #[.pointer (some ⟨gb, 0, none⟩), .agg #[.string c.key, .string c.val, .bool c.gone]] w fun e w' => ∃ vb', e = .returned (.int .i64 (chg l c).1) ∧ Bt B w' gb vb' (chg l c).2 ∧ Turn w w' (BtS gb vb) ∧ Grow w vb vb' := by
  have hll := H.few
  have hpl : place (keysC l) c.key ≤ l.length := by have := place_le (keysC l) c.key; rw [keysC_len] at this; exact this
  by_cases hf : fitsC c = 0
  · cases ht : thereC l c.key with
    | true =>
      have hch : chg l c = (0, l.set (place (keysC l) c.key) c) := by rw [chg, if_neg (by simp [hf]), if_pos ht]
      have hsr := sorted_set H.srt c ht
      have hpl2 : place (keysC l) c.key < l.length := by
        rcases Nat.lt_or_ge (place (keysC l) c.key) l.length with h | h
        · exact h
        · have : (keysC l)[place (keysC l) c.key]? = some c.key := of_decide_eq_true ht
          rw [List.getElem?_eq_none (by rw [keysC_len]; exact h)] at this
          cases this
      rw [hch]
      clear hch
      have hplace : ∀ W, Bt B W gb vb l → Calls Tryz.prog 91 #[.pointer (some ⟨gb, 0, none⟩), .string c.key] W fun e w' => e = .returned (.tuple #[.int .i64 (place (keysC l) c.key : Int), .bool true]) ∧ ∃ m, w' = W.drewN m := fun W h => by
        have := bplace_any h c.key
        rw [ht] at this
        exact this
      obtain ⟨p, hp⟩ : ∃ p, p = place (keysC l) c.key := ⟨_, rfl⟩
      rw [← hp] at hplace hpl hpl2 hsr ⊢
      clear hp ht
      obtain ⟨a, cc, rfl, _⟩ := sliceE_of H.row
      obtain ⟨g, cur, rfl, hBg, hg, hcur, _⟩ := rowE_at H.row (by omega)
      have q0 : (0 : Int) ≤ (p : Int) := by omega
      have q1 : (p : Int) < (l.length : Int) := by omega
      go_enter Tryz.func122, Tryz.ntmps122
      go_wp2_with (go_at_call 163; (with_reducible refine (fits_any c).mono ?_); rintro e w1 ⟨rfl, hb1⟩; have b1 : Below w.heap.size w w1 := (below_alloc (Below.refl _ _) _).trans (hb1.mono (by rw [size_alloc]; omega)); have hbk : w1.heap[w.heap.size]? = some (.cells #[.string c.key, .string c.val, .bool c.gone] 93 (0, 0)) := (hb1.block _ (by rw [size_alloc]; omega)).trans (heap_alloc_new w _); have x0 := (blk_cell hbk 0).trans rfl; have x1 := (blk_cell hbk 1).trans rfl; have x2 := (blk_cell hbk 2).trans rfl)
      (go_at_call 91; (with_reducible refine (hplace _ (H.ofBelow b1)).mono ?_); rintro e w2 ⟨rfl, m2, rfl⟩)
      have H1 := H.ofBelow b1
      have hg1 : w1.heap[g]? = some (.cells cur 93 (0, 0)) := (b1.block g (Array.getElem?_eq_some_iff.1 hg).1).trans hg
      have c0 : w1.cell? ⟨gb, 0, none⟩ = some (.slice (some ⟨g, 0, none⟩) l.length cc) := blk_cell H1.blk 0
      have hxs := H1.row.cells (g := g) rfl
      have y0 : w1.cell? ⟨g, p * 3, none⟩ = some (.string l[p].key) := by
        have := hxs (p * 3) _ (by rw [← Nat.add_zero (p * 3), flat_get cellsC 3 cellsC_len l p 0 hpl2 (by decide)]; rfl)
        rwa [add_zero_at] at this
      have y1 : w1.cell? ⟨g, p * 3 + 1, none⟩ = some (.string l[p].val) := by
        have := hxs (p * 3 + 1) _ (by rw [flat_get cellsC 3 cellsC_len l p 1 hpl2 (by decide)]; rfl)
        rwa [add_zero_at] at this
      have y2 : w1.cell? ⟨g, p * 3 + 2, none⟩ = some (.bool l[p].gone) := by
        have := hxs (p * 3 + 2) _ (by rw [flat_get cellsC 3 cellsC_len l p 2 hpl2 (by decide)]; rfl)
        rwa [add_zero_at] at this
      have z0 : w1.frozen? ⟨g, p * 3, none⟩ = false := blk_frozen hg1 _
      have z1 : w1.frozen? ⟨g, p * 3 + 1, none⟩ = false := blk_frozen hg1 _
      have z2 : w1.frozen? ⟨g, p * 3 + 2, none⟩ = false := blk_frozen hg1 _
      clear hxs hplace
      go_wp2_with (fail)
      go_region
      go_wp2_with (fail)
      go_ret
      have td : Turn w1 (w1.drewN (m2 + 1)) (fun _ => False) := turn_drewN _ _
      obtain ⟨hO, hT⟩ := (H1.turn td (fun _ _ => id)).over hpl2 c hsr
      exact ⟨_, rfl, hO, ((Turn.of_below b1 (BtS gb _)).then_ td (fun _ h => h.elim)).then_ hT (fun k hk => .inl hk), Grow.refl _ _⟩
    | false =>
      have hnk : (keysC l)[place (keysC l) c.key]? ≠ some c.key := of_decide_eq_false ht
      have hplace : ∀ W, Bt B W gb vb l → Calls Tryz.prog 91 #[.pointer (some ⟨gb, 0, none⟩), .string c.key] W fun e w' => e = .returned (.tuple #[.int .i64 (place (keysC l) c.key : Int), .bool false]) ∧ ∃ m, w' = W.drewN m := fun W h => by
        have := bplace_any h c.key
        rw [ht] at this
        exact this
      by_cases hfull : 2000 ≤ l.length
      · have hch : chg l c = (8, l) := by rw [chg, if_neg (by simp [hf]), if_neg (by simp [ht]), if_pos hfull]
        rw [hch]
        clear hch
        obtain ⟨p, hp⟩ : ∃ p, p = place (keysC l) c.key := ⟨_, rfl⟩
        rw [← hp] at hplace hpl
        clear hp ht hnk
        obtain ⟨a, cc, rfl, _⟩ := sliceE_of H.row
        have q0 : (2000 : Int) ≤ (l.length : Int) := by omega
        go_enter Tryz.func122, Tryz.ntmps122
        go_wp2_with (go_at_call 163; (with_reducible refine (fits_any c).mono ?_); rintro e w1 ⟨rfl, hb1⟩; have b1 : Below w.heap.size w w1 := (below_alloc (Below.refl _ _) _).trans (hb1.mono (by rw [size_alloc]; omega)); have hbk : w1.heap[w.heap.size]? = some (.cells #[.string c.key, .string c.val, .bool c.gone] 93 (0, 0)) := (hb1.block _ (by rw [size_alloc]; omega)).trans (heap_alloc_new w _); have x0 := (blk_cell hbk 0).trans rfl; have x1 := (blk_cell hbk 1).trans rfl; have x2 := (blk_cell hbk 2).trans rfl)
        (go_at_call 91; (with_reducible refine (hplace _ (H.ofBelow b1)).mono ?_); rintro e w2 ⟨rfl, m2, rfl⟩)
        have H1 := H.ofBelow b1
        have c0 : w1.cell? ⟨gb, 0, none⟩ = some (.slice a l.length cc) := blk_cell H1.blk 0
        go_wp2_with (fail)
        go_ret
        exact ⟨_, rfl, H1.turn (turn_drewN _ _) (fun _ _ => id), (Turn.of_below b1 (fun _ => False)).then_ (turn_drewN _ _) (fun _ h => h.elim) |>.mono (fun _ h => h.elim), Grow.refl _ _⟩
      · have hch : chg l c = (0, insAt l (place (keysC l) c.key) c) := by rw [chg, if_neg (by simp [hf]), if_neg (by simp [ht]), if_neg hfull]
        rw [hch]
        clear hch
        have hsr : Sorted (keysC (insAt l (place (keysC l) c.key) c)) := by
          unfold keysC
          rw [insAt_map]
          exact sorted_ins H.srt c.key hnk
        obtain ⟨p, hp⟩ : ∃ p, p = place (keysC l) c.key := ⟨_, rfl⟩
        rw [← hp] at hplace hpl hsr ⊢
        clear hp ht hnk
        obtain ⟨a, cc, rfl, _⟩ := sliceE_of H.row
        have q0 : ¬ (2000 : Int) ≤ (l.length : Int) := by omega
        go_enter Tryz.func122, Tryz.ntmps122
        go_wp2_with (go_at_call 163; (with_reducible refine (fits_any c).mono ?_); rintro e w1 ⟨rfl, hb1⟩; have b1 : Below w.heap.size w w1 := (below_alloc (Below.refl _ _) _).trans (hb1.mono (by rw [size_alloc]; omega)); have hbk : w1.heap[w.heap.size]? = some (.cells #[.string c.key, .string c.val, .bool c.gone] 93 (0, 0)) := (hb1.block _ (by rw [size_alloc]; omega)).trans (heap_alloc_new w _); have x0 := (blk_cell hbk 0).trans rfl; have x1 := (blk_cell hbk 1).trans rfl; have x2 := (blk_cell hbk 2).trans rfl)
        (go_at_call 91; (with_reducible refine (hplace _ (H.ofBelow b1)).mono ?_); rintro e w2 ⟨rfl, m2, rfl⟩)
        have H1 := H.ofBelow b1
        have c0 : w1.cell? ⟨gb, 0, none⟩ = some (.slice a l.length cc) := blk_cell H1.blk 0
        have s1 := b1.size
        have c1 : ∀ m o, ((w1.drewN m).alloc o).cell? ⟨gb, 0, none⟩ = some (.slice a l.length cc) := fun m o => (World.cell?_of_block (Below.heap_alloc (w1.drewN m) o gb H1.lt)).trans c0
        have c2 : ∀ o, (w1.alloc o).cell? ⟨gb, 0, none⟩ = some (.slice a l.length cc) := fun o => (World.cell?_of_block (Below.heap_alloc w1 o gb H1.lt)).trans c0
        go_wp2_with (fail)
        go_region_with (first
          | (go_at_call 164; refine (cinsert_any (gv := w1.heap.size) (us := cellsC c) (cs := #[.string c.key, .string c.val, .bool c.gone]) (rowE_below H1.row ?hb2) hpl (by omega) ?hb3 (flat_one cellsC cellsC_one l) ?hb4 rfl rfl (cellsC_one c) ?hb5).mono ?_; (case hb2 => (repeat (with_reducible first | exact Below.refl _ _ | apply below_alloc | apply pw_below_drewN | apply below_drew1))); (case hb3 => (simp; omega)); (case hb4 => exact heap_alloc_new _ _); (case hb5 => (intro e; have := H1.ltS _ (.inr e); omega)); rintro e w3 ⟨v3, rfl, hr3, hT3, hG3⟩; obtain ⟨a3, cc3, rfl, _⟩ := sliceE_of hr3; have d3 := H1.still hT3 (by repeat (with_reducible first | exact Below.refl _ _ | apply below_alloc | apply pw_below_drewN | apply below_drew1)); have e3 : w3.cell? ⟨gb, 0, none⟩ = some (.slice a l.length cc) := blk_cell d3 0; have f3 := blk_frozen d3 0)
          | fail)
        all_goals go_wp2_with (fail)
        all_goals go_ret
        all_goals
          obtain ⟨f1, f2, f3⟩ := H1.ins hT3 (by repeat (with_reducible first | exact Below.refl _ _ | apply below_alloc | apply pw_below_drewN | apply below_drew1)) hG3 c hr3 hpl hsr hfull
          have f4 : Grow w (.slice a l.length cc) (.slice a3 (l.length + 1) cc3) := fun k hk => by
            rcases f3 k hk with h | h
            · exact .inl h
            · exact .inr (by omega)
          have f5 := (Turn.of_below b1 (BtS gb (.slice a l.length cc))).then_ f2 (fun k hk => .inl hk)
          exact ⟨_, rfl, f1, f5, f4⟩
  · have hch : chg l c = (fitsC c, l) := by rw [chg, if_pos hf]
    rw [hch]
    clear hch
    go_enter Tryz.func122, Tryz.ntmps122
    go_wp2_with (go_at_call 163; (with_reducible refine (fits_any c).mono ?_); rintro e w1 ⟨rfl, hb1⟩)
    go_ret
    have b2 : Below w.heap.size w w1 := (below_alloc (Below.refl _ _) _).trans (hb1.mono (by rw [size_alloc]; omega))
    exact ⟨vb, rfl, H.ofBelow b2, Turn.of_below b2 _, Grow.refl _ _⟩
end
end Go.Proofs.YtpniccllpfonfaaGreatDoor.St
namespace Go.Proofs.YtpniccllpfonfaaGreatDoor.St
open Go Go.RowKit Go.Proofs.YtpniccllpfonfaaGreatDoorW.PrintWords Go.Proofs.YtpniccllpfonfaaGreatDoor.Wd Go.Proofs.YtpniccllpfonfaaGreatDoor.Q
theorem texts_at {w : World} {g : Nat} {l : List ByteArray} (h : w.heap[g]? = some (.cells (l.map Value.string).toArray 9 (0, 0))) : Texts w (some ⟨g, 0, none⟩) l := fun _ =>
  ⟨g, 0, rfl, fun i hi => by
    rw [Nat.zero_add, blk_cell h]
    simp [List.getElem?_eq_getElem hi]⟩
/-- What changes say of a key. -/
def getC (l : List Ch) (key : ByteArray) : Option Ch := if thereC l key then l[place (keysC l) key]? else none
def textC (c : Ch) : ByteArray := if c.gone then ⟨(rowL [⟨#[45]⟩, c.key]).toArray⟩ else ⟨(rowL [⟨#[43]⟩, c.key, c.val]).toArray⟩
theorem there_lt {l : List Ch} {key : ByteArray} (h : thereC l key = true) : place (keysC l) key < l.length := by
  have h1 : (keysC l)[place (keysC l) key]? = some key := of_decide_eq_true h
  rcases Nat.lt_or_ge (place (keysC l) key) l.length with h2 | h2
  · exact h2
  · rw [List.getElem?_eq_none (by rw [keysC_len]; exact h2)] at h1
    cases h1
theorem three {w : World} {g t : Nat} {a b c : Value} (h : w.heap[g]? = some (.cells #[a, b, c] t (0, 0))) (x y z : Value) : (((w.setCell ⟨g, 0, none⟩ x).setCell ⟨g, 1, none⟩ y).setCell ⟨g, 2, none⟩ z).heap[g]? = some (.cells #[x, y, z] t (0, 0)) := by
  have := blk_set (blk_set (blk_set h 0 x) 1 y) 2 z
  simpa using this
theorem three_below {B : Nat} {w0 w : World} {g : Nat} (h : Below B w0 w) (hg : B ≤ g) (x y z : Value) : Below B w0 (((w.setCell ⟨g, 0, none⟩ x).setCell ⟨g, 1, none⟩ y).setCell ⟨g, 2, none⟩ z) :=
  ((h.setCell (p := ⟨g, 0, none⟩) hg _).setCell (p := ⟨g, 1, none⟩) hg _).setCell (p := ⟨g, 2, none⟩) hg _
section
variable {B : Nat} {w w' : World} {gb : Nat} {vb : Value} {l : List Ch}
set_option maxRecDepth 100000 in
set_option maxHeartbeats 4000000 in
theorem put_any (H : Bt B w gb vb l) (hB : B ≤ w.heap.size) (key val : ByteArray) :
    Calls Tryz.prog 80 #[.pointer (some ⟨gb, 0, none⟩), .string key, .string val] w fun e w' => ∃ vb', e = .returned (.int .i64 (chg l ⟨key, val, false⟩).1) ∧ Bt B w' gb vb' (chg l ⟨key, val, false⟩).2 ∧ Turn w w' (BtS gb vb) ∧ Grow w vb vb' := by
  go_enter Tryz.func80, Tryz.ntmps80
  go_wp2_with (go_at_call 122; (with_reducible refine (change_any H hB ⟨key, val, false⟩).mono ?_); rintro e w1 ⟨vb1, rfl, h1, h2, h3⟩)
  go_ret
  exact ⟨vb1, rfl, h1, h2, h3⟩
set_option maxRecDepth 100000 in
set_option maxHeartbeats 4000000 in
theorem del_any (H : Bt B w gb vb l) (hB : B ≤ w.heap.size) (key : ByteArray) :
    Calls Tryz.prog 110 #[.pointer (some ⟨gb, 0, none⟩), .string key] w fun e w' => ∃ vb', e = .returned (.int .i64 (chg l ⟨key, ⟨#[]⟩, true⟩).1) ∧ Bt B w' gb vb' (chg l ⟨key, ⟨#[]⟩, true⟩).2 ∧ Turn w w' (BtS gb vb) ∧ Grow w vb vb' := by
  go_enter Tryz.func110, Tryz.ntmps110
  go_wp2_with (go_at_call 122; (with_reducible refine (change_any H hB ⟨key, ⟨#[]⟩, true⟩).mono ?_); rintro e w1 ⟨vb1, rfl, h1, h2, h3⟩)
  go_ret
  exact ⟨vb1, rfl, h1, h2, h3⟩
set_option maxRecDepth 100000 in
set_option maxHeartbeats 4000000 in
theorem blen_any (H : Bt B w gb vb l) : Calls Tryz.prog 69 #[.pointer (some ⟨gb, 0, none⟩)] w fun e w' => e = .returned (.int .i64 (l.length : Int)) ∧ w' = w := by
  obtain ⟨a, c, rfl, _⟩ := sliceE_of H.row
  have c0 : w.cell? ⟨gb, 0, none⟩ = some (.slice a l.length c) := blk_cell H.blk 0
  go_enter Tryz.func69, Tryz.ntmps69
  go_wp2_with (fail)
  go_ret
  exact ⟨rfl, rfl⟩
set_option maxRecDepth 100000 in
set_option maxHeartbeats 4000000 in
theorem clear_any (H : Bt B w gb vb l) : Calls Tryz.prog 47 #[.pointer (some ⟨gb, 0, none⟩)] w fun e w' => e = .returned (.tuple #[]) ∧ Bt B w' gb (.slice none 0 0) [] ∧ Turn w w' (fun k => k = gb) := by
  obtain ⟨a, c, rfl, _⟩ := sliceE_of H.row
  have c0 : w.cell? ⟨gb, 0, none⟩ = some (.slice a l.length c) := blk_cell H.blk 0
  have f0 : w.frozen? ⟨gb, 0, none⟩ = false := blk_frozen H.blk 0
  go_enter Tryz.func47, Tryz.ntmps47
  go_wp2_with (fail)
  refine Go.Great.bodyPost_end0 rfl rfl ?_
  refine ⟨rfl, ⟨?_, H.g0, ⟨rfl, .inl ⟨rfl, rfl⟩⟩, sorted_nil, by simp⟩, (Turn.refl w (fun k => k = gb)).setCell (p := ⟨gb, 0, none⟩) (.inl rfl) _⟩
  have := blk_set H.blk 0 (.slice none 0 0)
  simpa using this
set_option maxRecDepth 100000 in
set_option maxHeartbeats 4000000 in
theorem bget_none (H : Bt B w gb vb l) (key : ByteArray) (ht : thereC l key = false) :
    Calls Tryz.prog 48 #[.pointer (some ⟨gb, 0, none⟩), .string key] w fun e w' => e = .returned (.tuple #[.agg #[.string ⟨#[]⟩, .string ⟨#[]⟩, .bool false], .bool false]) ∧ Below w.heap.size w w' := by
  have hplace : ∀ W, Bt B W gb vb l → Calls Tryz.prog 91 #[.pointer (some ⟨gb, 0, none⟩), .string key] W fun e w' => e = .returned (.tuple #[.int .i64 (place (keysC l) key : Int), .bool false]) ∧ ∃ m, w' = W.drewN m := fun W h => by
    have := bplace_any h key
    rw [ht] at this
    exact this
  clear ht
  go_enter Tryz.func48, Tryz.ntmps48
  go_wp2_with (go_at_call 91; (with_reducible refine (hplace _ (H.ofBelow (below_alloc (Below.refl _ _) _))).mono ?_); rintro e w2 ⟨rfl, m2, rfl⟩)
  refine bodyPost_ret (results_ct rfl _ _ w.heap.size 93 #[.string ⟨#[]⟩, .string ⟨#[]⟩, .bool false] (0, 0) _ rfl (three (w := (w.alloc _).drewN m2) (heap_alloc_new w _) _ _ _) Tryz.underlying93 rfl (by kernel_rfl)) rfl ?_
  exact ⟨rfl, three_below (pw_below_drewN (below_alloc (Below.refl _ _) _) _) (Nat.le_refl _) _ _ _⟩
set_option maxRecDepth 100000 in
set_option maxHeartbeats 4000000 in
theorem bget_some (H : Bt B w gb vb l) (key : ByteArray) (ht : thereC l key = true) :
    Calls Tryz.prog 48 #[.pointer (some ⟨gb, 0, none⟩), .string key] w fun e w' => (∃ c, getC l key = some c ∧ c.key = key ∧ e = .returned (.tuple #[.agg #[.string c.key, .string c.val, .bool c.gone], .bool true])) ∧ Below w.heap.size w w' := by
  have hp2 := there_lt ht
  have hplace : ∀ W, Bt B W gb vb l → Calls Tryz.prog 91 #[.pointer (some ⟨gb, 0, none⟩), .string key] W fun e w' => e = .returned (.tuple #[.int .i64 (place (keysC l) key : Int), .bool true]) ∧ ∃ m, w' = W.drewN m := fun W h => by
    have := bplace_any h key
    rw [ht] at this
    exact this
  have hgc : getC l key = some l[place (keysC l) key] := by rw [getC, if_pos ht, List.getElem?_eq_getElem hp2]
  have hck : l[place (keysC l) key].key = key := by
    have h1 : (l.map (·.key))[place (keysC l) key]? = some key := of_decide_eq_true ht
    rw [List.getElem?_map, List.getElem?_eq_getElem hp2] at h1
    exact Option.some.inj h1
  obtain ⟨p, hp⟩ : ∃ p, p = place (keysC l) key := ⟨_, rfl⟩
  have fin : ∀ (h : p < l.length), getC l key = some l[p] ∧ l[p].key = key := fun h => by
    subst hp
    exact ⟨hgc, hck⟩
  have FIN := Lib.hid fin
  rw [← hp] at hplace hp2
  clear hgc hck fin ht hp
  have hx : ∀ W, Bt B W gb vb l → ∃ a cc g, vb = .slice a l.length cc ∧ a = some ⟨g, 0, none⟩ ∧ g < W.heap.size ∧ W.cell? ⟨gb, 0, none⟩ = some vb ∧ W.cell? ⟨g, p * 3, none⟩ = some (.string l[p].key) ∧ W.cell? ⟨g, p * 3 + 1, none⟩ = some (.string l[p].val) ∧ W.cell? ⟨g, p * 3 + 2, none⟩ = some (.bool l[p].gone) := fun W h => by
    obtain ⟨a, cc, rfl, _⟩ := sliceE_of h.row
    obtain ⟨g, cur, rfl, hBg, hg, hcur, hc⟩ := rowE_at h.row (by omega)
    exact ⟨_, cc, g, rfl, rfl, (Array.getElem?_eq_some_iff.1 hg).1, blk_cell h.blk 0, hc _ _ (by rw [← Nat.add_zero (p * 3), flat_get cellsC 3 cellsC_len l p 0 hp2 (by decide)]; rfl), hc _ _ (by rw [flat_get cellsC 3 cellsC_len l p 1 hp2 (by decide)]; rfl), hc _ _ (by rw [flat_get cellsC 3 cellsC_len l p 2 hp2 (by decide)]; rfl)⟩
  have q0 : (0 : Int) ≤ (p : Int) := by omega
  have q1 : (p : Int) < (l.length : Int) := by omega
  have HA := H.ofBelow (below_alloc (Below.refl _ _) (.cells #[.string ⟨#[]⟩, .string ⟨#[]⟩, .bool false] 93 (0, 0)))
  obtain ⟨a, cc, g, rfl, rfl, hgl, c0, y0, y1, y2⟩ := hx _ HA
  clear hx
  go_enter Tryz.func48, Tryz.ntmps48
  go_wp2_with (go_at_call 91; (with_reducible refine (hplace _ HA).mono ?_); rintro e w2 ⟨rfl, m2, rfl⟩)
  have B1 := pw_below_drewN (below_alloc (Below.refl w.heap.size w) (.cells #[.string ⟨#[]⟩, .string ⟨#[]⟩, .bool false] 93 (0, 0))) m2
  have n1 : ((w.alloc (.cells #[.string ⟨#[]⟩, .string ⟨#[]⟩, .bool false] 93 (0, 0))).drewN m2).heap[w.heap.size]? = some (.cells #[.string ⟨#[]⟩, .string ⟨#[]⟩, .bool false] 93 (0, 0)) := heap_alloc_new w _
  refine bodyPost_ret (results_ct rfl _ _ w.heap.size 93 #[.string l[p].key, .string l[p].val, .bool l[p].gone] (0, 0) _ rfl (three n1 _ _ _) Tryz.underlying93 rfl (by kernel_rfl)) rfl ?_
  exact ⟨⟨l[p], (FIN.out hp2).1, (FIN.out hp2).2, rfl⟩, three_below B1 (Nat.le_refl _) _ _ _⟩
set_option maxRecDepth 100000 in
set_option maxHeartbeats 4000000 in
theorem bwrite_any (c : Ch) (hk : c.key.size < 2000000) (hv : c.val.size < 2000000) : Calls Tryz.prog 126 #[.agg #[.string c.key, .string c.val, .bool c.gone]] w fun e w' => e = .returned (.string (textC c)) ∧ Below w.heap.size w w' := by
  obtain ⟨ky, vl, gn⟩ := c
  cases gn with
  | true =>
    go_enter Tryz.func126, Tryz.ntmps126
    go_wp2_with (go_at_call 114; refine (row_any (m := 2000000) (l := [⟨#[45]⟩, ky]) (texts_at (g := w.heap.size + 1) ?hb1) (by simp) ?hb2 (by omega)).mono ?_; (case hb1 => exact two_new w _ _); (case hb2 => (intro s hs; simp at hs; rcases hs with rfl | rfl; exact (by decide); exact Nat.le_of_lt hk)); rintro e w2 ⟨rfl, hb2⟩)
    go_ret
    exact ⟨rfl, (below_alloc (below_alloc (Below.refl _ _) _) _).trans (hb2.mono (by simp; omega))⟩
  | false =>
    go_enter Tryz.func126, Tryz.ntmps126
    go_wp2_with (go_at_call 114; refine (row_any (m := 2000000) (l := [⟨#[43]⟩, ky, vl]) (texts_at (g := w.heap.size + 1) ?hb1) (by simp) ?hb2 (by omega)).mono ?_; (case hb1 => exact two_new w _ _); (case hb2 => (intro s hs; simp at hs; rcases hs with rfl | rfl | rfl; exact (by decide); exact Nat.le_of_lt hk; exact Nat.le_of_lt hv)); rintro e w2 ⟨rfl, hb2⟩)
    go_ret
    exact ⟨rfl, (below_alloc (below_alloc (Below.refl _ _) _) _).trans (hb2.mono (by simp; omega))⟩
end
end Go.Proofs.YtpniccllpfonfaaGreatDoor.St
namespace Go.Proofs.YtpniccllpfonfaaGreatDoor.St
open Go Go.RowKit Go.Proofs.YtpniccllpfonfaaGreatDoorW.PrintWords Go.Proofs.YtpniccllpfonfaaGreatDoor.Wd
theorem cellsP_len (p : Pr) : (cellsP p).length = 2 := rfl
theorem cellsP_one (p : Pr) : ∀ v ∈ cellsP p, v.oneCell' = true := by
  intro v hv
  simp only [cellsP, List.mem_cons, List.not_mem_nil, or_false] at hv
  rcases hv with rfl | rfl <;> rfl
theorem turnDrewN {w w2 : World} {S : Nat → Prop} (h : Turn w w2 S) (n : Nat) : Turn w (w2.drewN n) S := ⟨h.os, h.tape, h.output, h.kept⟩
theorem keys_len (l : List Pr) : (keys l).length = l.length := List.length_map ..
def thereP (l : List Pr) (key : ByteArray) : Bool := decide ((keys l)[place (keys l) key]? = some key)
theorem thereP_lt {l : List Pr} {key : ByteArray} (h : thereP l key = true) : place (keys l) key < l.length := by
  have h1 : (keys l)[place (keys l) key]? = some key := of_decide_eq_true h
  rcases Nat.lt_or_ge (place (keys l) key) l.length with h2 | h2
  · exact h2
  · rw [List.getElem?_eq_none (by rw [keys_len]; exact h2)] at h1
    cases h1
theorem thereP_key {l : List Pr} {key : ByteArray} (h : thereP l key = true) : (l[place (keys l) key]'(thereP_lt h)).key = key := by
  have h1 : (l.map (·.key))[place (keys l) key]? = some key := of_decide_eq_true h
  rw [List.getElem?_map, List.getElem?_eq_getElem (thereP_lt h)] at h1
  exact Option.some.inj h1
/-- Pairs with a change done. -/
def doneL (l : List Pr) (c : Ch) : List Pr :=
  if c.gone then (if thereP l c.key then l.eraseIdx (place (keys l) c.key) else l)
  else if thereP l c.key then l.set (place (keys l) c.key) ⟨c.key, c.val⟩
  else insAt l (place (keys l) c.key) ⟨c.key, c.val⟩
theorem doneL_sorted {l : List Pr} (hs : Sorted (keys l)) (c : Ch) : Sorted (keys (doneL l c)) := by
  unfold doneL
  split
  · split
    · have e : keys (l.eraseIdx (place (keys l) c.key)) = (keys l).eraseIdx (place (keys l) c.key) := by
        unfold keys
        rw [List.eraseIdx_eq_take_drop_succ, List.eraseIdx_eq_take_drop_succ, List.map_append, List.map_take, List.map_drop]
      rw [e]
      exact sorted_erase hs _
    · exact hs
  · split
    · rename_i h1 h2
      have e : keys (l.set (place (keys l) c.key) ⟨c.key, c.val⟩) = keys l := map_set_same Pr.key l (place (keys l) c.key) ⟨c.key, c.val⟩ (of_decide_eq_true h2)
      rw [e]
      exact hs
    · rename_i h1 h2
      have e : keys (insAt l (place (keys l) c.key) ⟨c.key, c.val⟩) = insAt (keys l) (place (keys l) c.key) c.key := insAt_map Pr.key l (place (keys l) c.key) ⟨c.key, c.val⟩
      rw [e]
      have h3 : thereP l c.key = false := by simpa using h2
      exact sorted_ins hs c.key (of_decide_eq_false h3)
theorem doneL_len (l : List Pr) (c : Ch) : (doneL l c).length ≤ l.length + 1 := by
  unfold doneL
  split
  · split
    · rw [List.length_eraseIdx]; split <;> omega
    · omega
  · split
    · rw [List.length_set]; omega
    · rw [insAt_len]; omega
/-- How many bytes pairs have. -/
def usedL (l : List Pr) : Nat := (l.map fun p => p.key.size + p.val.size).sum
theorem usedL_snoc (l : List Pr) (p : Pr) : usedL (l ++ [p]) = usedL l + (p.key.size + p.val.size) := by simp [usedL]
theorem usedL_take (l : List Pr) (k : Nat) : usedL (l.take k) ≤ usedL l := by
  induction l generalizing k with
  | nil => simp [usedL]
  | cons p l ih =>
    cases k with
    | zero => simp [usedL]
    | succ k =>
      have := ih k
      simp only [usedL, List.take_succ_cons, List.map_cons, List.sum_cons] at this ⊢
      omega
section
variable {B : Nat} {w w' : World}
set_option maxRecDepth 100000 in
set_option maxHeartbeats 4000000 in
theorem pclone_any {v : Value} {n : Nat} {xs : List Value} (h : w.ownsRow B 96 2 v n xs) (hn : n < 1000000) (hone : ∀ u ∈ xs, u.oneCell' = true) :
    Calls Tryz.prog 83 #[v] w fun e w' => ∃ v', e = .returned v' ∧ w'.ownsRow w.heap.size 96 2 v' n xs ∧ Below w.heap.size w w' := by
  obtain ⟨i0, hi0, hz0, hz1, hz2⟩ := info_parts infoP
  rcases h.2 with ⟨rfl, rfl⟩ | ⟨g, c, cur, rfl, hBg, hg, hnc, hc63, hcur, hxs⟩
  · have hx : xs = [] := List.eq_nil_of_length_eq_zero (by have := h.1; omega)
    have q22 : ∀ (w : World) (a : Option Addr) (n c n' c' : Nat), (binOp .eql 33 (.slice a n c) (.slice none n' c')).run Tryz.prog w = .ok (.bool a.isNone) w := fun w a n c n' c' => Lib.run_eql_slice_nil w _ _ a n c n' c' Tryz.underlying33
    go_enter Tryz.func83, Tryz.ntmps83
    go_wp2_with (fail)
    go_ret
    exact ⟨_, rfl, ⟨by rw [hx]; rfl, .inl ⟨rfl, rfl⟩⟩, Below.refl _ _⟩
  · have hxl : xs.length = n * 2 := h.1
    have q22 : ∀ (w : World) (a : Option Addr) (n c n' c' : Nat), (binOp .eql 33 (.slice a n c) (.slice none n' c')).run Tryz.prog w = .ok (.bool a.isNone) w := fun w a n c n' c' => Lib.run_eql_slice_nil w _ _ a n c n' c' Tryz.underlying33
    have A := Lib.hid (show ∀ j u, xs[j]? = some u → w.cell? ⟨g, j, none⟩ = some u from fun j u hj => by
      rw [blk_cell hg, ← Array.getElem?_toList]
      rw [← hxs, List.getElem?_take] at hj
      split at hj
      · exact hj
      · cases hj)
    clear hg hxs hcur
    go_enter Tryz.func83, Tryz.ntmps83
    go_wp2_with (at_builtin; refine wpList_append_own _ rfl _ _ 33 rfl w.heap.size 96 i0 _ 2 32 Tryz.underlying33 hi0 hz0 hz1 hz2 rfl (by omega) _ _ _ rfl (World.ownsRow_made w #[] 0 (Nat.le_refl _) (Nat.zero_le _) (by simp)) ⟨g, 0, none⟩ n c xs rfl ?qc1 ?qc2 ?qc3 ?qc4 ?qc5 ?qc6 ?_; (case qc1 => exact hxl); (case qc2 => (intro j u hj; rw [add_zero_at]; exact Lib.cell?_alloc_some _ (A.out j u hj))); (case qc3 => exact hone); (case qc4 => (rw [Nat.zero_add]; unfold maxLen; omega)); (case qc5 => (rw [Nat.zero_add]; omega)); (case qc6 => simp); intro v' w1 hown hgrow hnil)
    go_ret
    refine ⟨v', rfl, by simpa using hown, ?_⟩
    exact ((Below.refl _ w).alloc (Nat.le_refl _) _).grown hgrow (by simp) (fun k hk => by injection hk with hk; exact Nat.le_of_eq hk)
set_option maxRecDepth 100000 in
set_option maxHeartbeats 4000000 in
theorem used_any {a : Option Addr} {c : Nat} {l : List Pr} (h : w.ownsRow B 96 2 (.slice a l.length c) l.length (flatP l)) (hl : l.length < 1000000) (hu : usedL l < 1000000000000) :
    Calls Tryz.prog 85 #[.slice a l.length c] w fun e w' => e = .returned (.int .i64 (usedL l : Int)) ∧ Below w.heap.size w w' := by
  have hg9 : ∀ i (hi : i < l.length), ∃ g, a = some ⟨g, 0, none⟩ ∧ g < w.heap.size ∧ w.cell? ⟨g, i * 2, none⟩ = some (.string l[i].key) ∧ w.cell? ⟨g, i * 2 + 1, none⟩ = some (.string l[i].val) := fun i hi => by
    obtain ⟨g, cur, rfl, _, hg, _, hc⟩ := rowE_at h (by omega)
    exact ⟨g, rfl, (Array.getElem?_eq_some_iff.1 hg).1, hc (i * 2) _ (by rw [← Nat.add_zero (i * 2), flatP, flat_get cellsP 2 cellsP_len l i 0 hi (by decide)]; rfl), hc (i * 2 + 1) _ (by rw [flatP, flat_get cellsP 2 cellsP_len l i 1 hi (by decide)]; rfl)⟩
  clear h
  go_enter Tryz.func85, Tryz.ntmps85
  go_wp2_with (fail)
  go_loopw [3, 8] (fun s i wr => ∃ k : Nat, k ≤ l.length ∧ i = .int .i64 (k : Int) ∧ s = .int .i64 (usedL (l.take k) : Int) ∧ Below w.heap.size w wr) (fun _ i _ => l.length - (intOf i).toNat)
  case atStart => exact ⟨0, Nat.zero_le _, rfl, rfl, Below.refl _ _⟩
  case round =>
    obtain ⟨k, hk, rfl, rfl, hb⟩ := hrel
    by_cases hlt : k < l.length
    · obtain ⟨g, rfl, hgl, x0, x1⟩ := hg9 k hlt
      have y0 : wr.cell? ⟨g, k * 2, none⟩ = some (.string l[k].key) := (hb.cell (p := ⟨g, k * 2, none⟩) hgl).trans x0
      have y1 : wr.cell? ⟨g, k * 2 + 1, none⟩ = some (.string l[k].val) := (hb.cell (p := ⟨g, k * 2 + 1, none⟩) hgl).trans x1
      have hne : g ≠ wr.heap.size := by have := hb.size; omega
      have k0 : (0 : Int) ≤ (k : Int) := by omega
      have k1 : (k : Int) < (l.length : Int) := by omega
      have hs : usedL (l.take (k + 1)) = usedL (l.take k) + (l[k].key.size + l[k].val.size) := by
        rw [List.take_add_one, List.getElem?_eq_getElem hlt]
        exact usedL_snoc _ _
      have hle := usedL_take l (k + 1)
      have e1 : wrap64 ((usedL (l.take k) : Int) + ((l[k].key.size : Int) + (l[k].val.size : Int))) = (usedL (l.take (k + 1)) : Int) := by rw [wr_id _ (by omega) (by omega), hs]; simp
      have e2 : wrap64 ((l[k].key.size : Int) + (l[k].val.size : Int)) = (l[k].key.size : Int) + (l[k].val.size : Int) := wr_id _ (by omega) (by omega)
      have E1 := Lib.hid e1
      have E2 := Lib.hid e2
      clear hs hle hg9 x0 x1 e1 e2
      go_wp2_with (fail)
      go_roundw
      case rel => exact ⟨k + 1, hlt, by simp, by rw [E2.out, E1.out], below_alloc hb _⟩
      case measure => simp [intOf]; omega
    · obtain rfl : k = l.length := by omega
      clear hg9
      go_wp2_with (fail)
      go_ret
      exact ⟨by show Ending.returned (.int .i64 (usedL (l.take l.length) : Int)) = _; rw [List.take_length], hb⟩
set_option maxRecDepth 100000 in
set_option maxHeartbeats 8000000 in
theorem pdone_put {v : Value} {l : List Pr} (h : w.ownsRow B 96 2 v l.length (flatP l)) (hs : Sorted (keys l)) (hl : l.length < 900000) (hB : B ≤ w.heap.size) (c : Ch) (hg : c.gone = false) :
    Calls Tryz.prog 84 #[v, .agg #[.string c.key, .string c.val, .bool c.gone]] w fun e w' => ∃ v', e = .returned v' ∧ w'.ownsRow B 96 2 v' (doneL l c).length (flatP (doneL l c)) ∧ Turn w w' (fun k => v.ownBlock = some k) ∧ Grow w v v' := by
  obtain ⟨ky, vl, gn⟩ := c
  obtain rfl : gn = false := hg
  obtain ⟨a, cc, rfl, _⟩ := sliceE_of h
  have hA := rowE_below h (below_alloc (Below.refl _ _) (.cells #[.string ky, .string vl, .bool false] 93 (0, 0)))
  have hpl : place (keys l) ky ≤ l.length := by have := place_le (keys l) ky; rw [keys_len] at this; exact this
  have hplace := place_any hA hs (by omega) ky
  have bx := heap_alloc_new w (.cells #[.string ky, .string vl, .bool false] 93 (0, 0))
  cases ht : thereP l ky with
  | true =>
    have hp2 := thereP_lt ht
    have hck := thereP_key ht
    have hd : doneL l ⟨ky, vl, false⟩ = l.set (place (keys l) ky) ⟨ky, vl⟩ := by simp [doneL, ht]
    rw [hd]
    clear hd hs
    obtain ⟨p, hpl2, hck2, hpe⟩ : ∃ p, ∃ h : p < l.length, l[p].key = ky ∧ place (keys l) ky = p := ⟨_, hp2, hck, rfl⟩
    rw [hpe] at hplace ⊢
    clear hck hpe hp2 hpl ht
    have hp2 : p < l.length := hpl2
    obtain ⟨g, cur, rfl, hBg, hg0, hcur, hc⟩ := rowE_at hA (by omega)
    have y0 := hc (p * 2) (.string l[p].key) (by rw [← Nat.add_zero (p * 2), flatP, flat_get cellsP 2 cellsP_len l p 0 hp2 (by decide)]; rfl)
    have y1 := hc (p * 2 + 1) (.string l[p].val) (by rw [flatP, flat_get cellsP 2 cellsP_len l p 1 hp2 (by decide)]; rfl)
    have z1 := blk_frozen hg0 (p * 2 + 1)
    rw [hck2] at y0
    have q0 : (0 : Int) ≤ (p : Int) := by omega
    have q1 : (p : Int) < (l.length : Int) := by omega
    have r := rowE_set hA (i := p * 2 + 1) (.string vl) (by omega)
    have hr : flatP (l.set p ⟨ky, vl⟩) = (flatP l).set (p * 2 + 1) (.string vl) := by
      have e0 : ((flatP l).set (p * 2) (.string ky)) = flatP l := by
        apply List.ext_getElem?
        intro j
        rw [List.getElem?_set]
        split
        · rename_i hj
          subst hj
          have hfl : p * 2 < (flatP l).length := by rw [flatP, flat_len cellsP 2 cellsP_len]; omega
          rw [if_pos hfl, flatP, ← Nat.add_zero (p * 2), flat_get cellsP 2 cellsP_len l p 0 hp2 (by decide)]
          show some (Value.string ky) = some (Value.string l[p].key)
          rw [hck2]
        · rfl
      rw [flatP, flat_set cellsP 2 cellsP_len l p hp2, show (p + 1) * 2 = p * 2 + 2 by omega]
      have e2 := set2 (flatP l) (p * 2) (.string ky) (.string vl) (by rw [flatP, flat_len cellsP 2 cellsP_len]; omega)
      rw [e0] at e2
      exact e2.symm
    have R := Lib.hid (And.intro r hr)
    clear r hr hc hcur hck2 hA h
    go_enter Tryz.func84, Tryz.ntmps84
    go_wp2_with (go_at_call 67; (with_reducible refine hplace.mono ?_); rintro e w1 ⟨rfl, rfl⟩)
    have x0 := blk_cell bx 0
    have x1 := blk_cell bx 1
    have x2 := blk_cell bx 2
    simp only [List.getElem?_toArray] at x0 x1 x2
    go_quiet (fail)
    go_wp2_with (fail)
    go_ret
    obtain ⟨r1, r2⟩ := R.out
    refine ⟨_, rfl, by rw [List.length_set, r2]; exact r1, ?_, Grow.refl _ _⟩
    exact (turnDrewN (Turn.of_below (below_alloc (Below.refl _ _) _) (fun k => (Value.slice (some ⟨g, 0, none⟩) l.length cc).ownBlock = some k)) _).setCell (p := ⟨g, p * 2 + 1, none⟩) (.inl rfl) _
  | false =>
    have hd : doneL l ⟨ky, vl, false⟩ = insAt l (place (keys l) ky) ⟨ky, vl⟩ := by simp [doneL, ht]
    rw [hd]
    clear hd
    have hnk : ∀ h : place (keys l) ky < l.length, ¬ l[place (keys l) ky].key = ky := fun h e => by
      have h1 : ¬ (l.map (·.key))[place (keys l) ky]? = some ky := of_decide_eq_false ht
      rw [List.getElem?_map, List.getElem?_eq_getElem h] at h1
      exact h1 (by rw [Option.map_some, e])
    obtain ⟨p, hp⟩ : ∃ p, p = place (keys l) ky := ⟨_, rfl⟩
    rw [← hp] at hplace hpl hnk ⊢
    clear hp ht hs
    have x0 := blk_cell bx 0
    have x1 := blk_cell bx 1
    have x2 := blk_cell bx 2
    simp only [List.getElem?_toArray] at x0 x1 x2
    have fin : ∀ (W w3 : World) (v3 : Value), Below w.heap.size w W → Turn W w3 (fun k => (Value.slice a l.length cc).ownBlock = some k) → Grow W (.slice a l.length cc) v3 → w3.ownsRow B 96 2 v3 (l.length + 1) ((flatP l).take (p * 2) ++ cellsP ⟨ky, vl⟩ ++ (flatP l).drop (p * 2)) → ∃ v', (Ending.returned v3 : Ending) = .returned v' ∧ w3.ownsRow B 96 2 v' (insAt l p ⟨ky, vl⟩).length (flatP (insAt l p ⟨ky, vl⟩)) ∧ Turn w w3 (fun k => (Value.slice a l.length cc).ownBlock = some k) ∧ Grow w (.slice a l.length cc) v' := fun W w3 v3 hb hT hG hr => by
      have hbs := hb.size
      refine ⟨v3, rfl, ?_, (Turn.of_below hb _).then_ hT (fun k hk => .inl hk), fun k hk => ?_⟩
      · rw [insAt_len, flatP, flat_ins cellsP 2 cellsP_len l p hpl]
        exact hr
      · rcases hG k hk with h1 | h1
        · exact .inl h1
        · exact .inr (by omega)
    have FIN := Lib.hid fin
    have HL := Lib.hid (show ∀ k, (Value.slice a l.length cc).ownBlock = some k → k < w.heap.size from fun k e => (h.lt k e).2)
    clear fin
    have hone := flat_one cellsP cellsP_one l
    by_cases hp2 : p < l.length
    · have hkk := hnk hp2
      have hkn : (l[p].key.toList == ky.toList) = false := by
        simpa using fun e => hkk (bytes_ext e)
      obtain ⟨g, cur, rfl, hBg, hg0, hcur, hc⟩ := rowE_at hA (by omega)
      have y0 := hc (p * 2) (.string l[p].key) (by rw [← Nat.add_zero (p * 2), flatP, flat_get cellsP 2 cellsP_len l p 0 hp2 (by decide)]; rfl)
      have q0 : (0 : Int) ≤ (p : Int) := by omega
      have q1 : (p : Int) < (l.length : Int) := by omega
      have HA := Lib.hid hA
      clear hc hcur hnk hkk hA h
      go_enter Tryz.func84, Tryz.ntmps84
      go_wp2_with (go_at_call 67; (with_reducible refine hplace.mono ?_); rintro e w1 ⟨rfl, rfl⟩)
      go_quiet (fail)
      go_wp2_with (fail)
      (go_at_call 125; refine (pinsert_any (gv := w.heap.size + 1) (cs := #[.string ky, .string vl]) (us := cellsP ⟨ky, vl⟩) (rowE_below HA.out ?hb1) hpl (by omega) ?hb2 hone ?hb3 rfl rfl (cellsP_one _) ?hb4).mono ?_; (case hb1 => (repeat (with_reducible first | exact Below.refl _ _ | apply below_alloc | apply pw_below_drewN | apply below_drew1))); (case hb2 => (simp; omega)); (case hb3 => exact two_new w _ _); (case hb4 => (intro e; have := HL.out _ e; omega)); rintro e w3 ⟨v3, rfl, g1, g2, g3⟩)
      go_wp2_with (fail)
      go_ret
      exact FIN.out _ _ _ (by repeat (with_reducible first | exact Below.refl _ _ | apply below_alloc | apply pw_below_drewN | apply below_drew1)) g2 g3 g1
    · have i1 : ¬ (p : Int) < (l.length : Int) := by omega
      have HA := Lib.hid hA
      clear hnk hA h
      go_enter Tryz.func84, Tryz.ntmps84
      go_wp2_with (go_at_call 67; (with_reducible refine hplace.mono ?_); rintro e w1 ⟨rfl, rfl⟩)
      go_quiet (fail)
      go_wp2_with (fail)
      (go_at_call 125; refine (pinsert_any (gv := w.heap.size + 1) (cs := #[.string ky, .string vl]) (us := cellsP ⟨ky, vl⟩) (rowE_below HA.out ?hb1) hpl (by omega) ?hb2 hone ?hb3 rfl rfl (cellsP_one _) ?hb4).mono ?_; (case hb1 => (repeat (with_reducible first | exact Below.refl _ _ | apply below_alloc | apply pw_below_drewN | apply below_drew1))); (case hb2 => (simp; omega)); (case hb3 => exact two_new w _ _); (case hb4 => (intro e; have := HL.out _ e; omega)); rintro e w3 ⟨v3, rfl, g1, g2, g3⟩)
      go_wp2_with (fail)
      go_ret
      exact FIN.out _ _ _ (by repeat (with_reducible first | exact Below.refl _ _ | apply below_alloc | apply pw_below_drewN | apply below_drew1)) g2 g3 g1
end
end Go.Proofs.YtpniccllpfonfaaGreatDoor.St
