/- The spool: Keys (the document's). -/
import Derived.Test.YtbifmgenljjleaaSpKP
import Derived.WalkLawsBesides
import Derived.Deep.RegionLaw
import Derived.Deep.AppendLies
namespace Go.Proofs.Ytbifmgenljjleaa.Sp
open Go Go.RowKit Go.Maps Go.WideMaps Go.Sort Go.Proofs.YtbifmgenljjleaaW.PrintWords

/-- How many stand ahead of a key. -/
def ahead_ (k : List UInt8) (ss : List (List UInt8)) : Nat := (ss.takeWhile (fun x => Op.bytesLess x k)).length
def ins (k : List UInt8) (ss : List (List UInt8)) : List (List UInt8) := ss.take (ahead_ k ss) ++ (k :: ss.drop (ahead_ k ss))
def rk (l : List E) (p : List UInt8) : List (List UInt8) := (kf l p).foldl (fun ss k => ins k ss) []
theorem ins_len (k : List UInt8) (ss : List (List UInt8)) : (ins k ss).length = ss.length + 1 := by
  have h : ahead_ k ss ≤ ss.length := by unfold ahead_; exact (List.takeWhile_prefix _).length_le
  unfold ins
  rw [List.length_append, List.length_cons, List.length_take, List.length_drop]
  omega
theorem rk_snoc (l : List E) (e : E) (p : List UInt8) : rk (l ++ [e]) p = if Lib.hasPrefix e.k p then ins e.k (rk l p) else rk l p := by
  unfold rk
  rw [kf_snoc, List.foldl_append]
  cases h : Lib.hasPrefix e.k p <;> simp
theorem rk_len (l : List E) (p : List UInt8) : (rk l p).length ≤ l.length := by
  induction l using snoc_ind with
  | nil => simp [rk, kf]
  | snoc l e ih =>
    rw [rk_snoc, List.length_append]
    split
    · rw [ins_len]; simp; omega
    · simp; omega
theorem pre_short {a b : ByteArray} (h : a.size < b.size) : Lib.hasPrefix a.data.toList b.data.toList = false := by
  unfold Lib.hasPrefix
  cases h1 : b.data.toList.isPrefixOf a.data.toList with
  | false => rfl
  | true =>
    have h2 := (List.isPrefixOf_iff_prefix.1 h1).length_le
    rw [Array.length_toList, Array.length_toList] at h2
    change b.size ≤ a.size at h2
    omega
theorem pre_eq {a b : ByteArray} (h : ¬ a.size < b.size) : Lib.hasPrefix a.data.toList b.data.toList = ((a.extract 0 b.size).toList == b.toList) := by
  rw [Lib.extract_toList, Lib.toList_data]
  unfold Lib.hasPrefix
  have hb : b.data.toList.length = b.size := Array.length_toList
  have ha : a.data.toList.length = a.size := Array.length_toList
  rw [Bool.eq_iff_iff, List.isPrefixOf_iff_prefix, beq_iff_eq, List.prefix_iff_eq_take, hb]
  simp only [List.drop_zero, Nat.sub_zero]
  exact ⟨fun h => h.symm, fun h => h.symm⟩
/-- What stands ahead of a key, step by step. -/
theorem ahead_at {k : List UInt8} {ss : List (List UInt8)} {j : Nat} (hj : j ≤ ss.length) (h1 : ∀ t (ht : t < j), Op.bytesLess (ss[t]'(by omega)) k = true) (h2 : (_h : j < ss.length) → Op.bytesLess ss[j] k = false) : ahead_ k ss = j := by
  unfold ahead_
  induction ss generalizing j with
  | nil => simp at hj; subst hj; rfl
  | cons x ss ih =>
    cases j with
    | zero =>
      have := h2 (by simp)
      simp only [List.getElem_cons_zero] at this
      rw [List.takeWhile_cons, this]
      rfl
    | succ j =>
      have h0 := h1 0 (by omega)
      simp only [List.getElem_cons_zero] at h0
      rw [List.takeWhile_cons, h0]
      simp only [if_true, List.length_cons]
      rw [ih (j := j) (by simpa using hj) (fun t ht => by have := h1 (t + 1) (by omega); simpa using this) (fun h => by have := h2 (by simpa using h); simpa using this)]
theorem one_encs (ss : List (List UInt8)) : ∀ u ∈ ss.map encStr, u.oneCell' = true := fun u hu => by
  obtain ⟨x, _, rfl⟩ := List.mem_map.1 hu
  rfl
theorem add_at (g j t : Nat) : (⟨g, j, none⟩ : Addr).add t = ⟨g, j + t, none⟩ := by
  unfold Addr.add
  split
  · rename_i h
    have : t = 0 := by simpa using h
    subst this
    rfl
  · rfl
theorem add_zero_at (g t : Nat) : (⟨g, 0, none⟩ : Addr).add t = ⟨g, t, none⟩ := by
  rw [add_at, Nat.zero_add]
theorem own_after {W w1 : World} {B n c : Nat} {go : Nat} {xs : List Value} {row : Option Nat} (h : W.ownsRow B 9 1 (.slice (some ⟨go, 0, none⟩) n c) n xs) (hg : W.grownBy w1 row) (hne : some go ≠ row) : w1.ownsRow B 9 1 (.slice (some ⟨go, 0, none⟩) n c) n xs := by
  have hlt := (h.lt go rfl).2
  refine ⟨h.1, ?_⟩
  rcases h.2 with h2 | ⟨g, cap, cur, h2, h3, h4, h5⟩
  · exact .inl h2
  · have e : go = g := by injection h2 with e1; injection e1 with e2; injection e2
    subst e
    exact .inr ⟨go, cap, cur, h2, h3, (hg.block go hlt hne).trans h4, h5⟩
theorem ins_row {W : World} {B g cap j : Nat} {k : List UInt8} {key : ByteArray} {ss : List (List UInt8)} (ha : ahead_ k ss = j) (hj : j ≤ ss.length) (hk : encStr k = .string key)
    (h : W.ownsRow B 9 1 (.slice (some ⟨g, 0, none⟩) (j + (1 + (ss.length - j))) cap) (j + (1 + (ss.length - j))) ((ss.map encStr).take (j * 1) ++ ([.string key] ++ (ss.drop j).map encStr))) :
    W.ownsRow B 9 1 (.slice (some ⟨g, 0, none⟩) (j + (1 + (ss.length - j))) cap) (ins k ss).length ((ins k ss).map encStr) := by
  have e1 : (ins k ss).length = j + (1 + (ss.length - j)) := by rw [ins_len]; omega
  have e2 : (ins k ss).map encStr = (ss.map encStr).take (j * 1) ++ ([.string key] ++ (ss.drop j).map encStr) := by
    unfold ins
    rw [ha, List.map_append, List.map_cons, hk, Nat.mul_one, List.map_take, List.map_drop]
    rfl
  rw [e1, e2]
  exact h
theorem step_append_zero {P : Program} {ops : Array Oper} {o : Oper} {a : Act} {w : World} {K : Act → World → Prop} {Q : Exit → Act → World → Prop} {E : Prop}
    (hg : o.guard = none) (s x : Operand) (t : TypeId) (hop : o.op = Op.call { callee := Callee.builtin Builtin.append, args := #[s, x], argTypes := #[t, t] })
    (e : TypeId) (i : TypeInfo) (size : Nat) (h1 : P.underlying t = some (.slice e)) (h2 : P.info? e = some i) (h4 : i.size = size)
    (b off n cap : Nat) (hs : a.eval s = .slice (some ⟨b, off, none⟩) n cap)
    (ad : Addr) (m c : Nat) (hx : a.eval x = .slice (some ad) m c) (hm : m = 0) (hroom : n ≤ cap) (hK : K (a.put o.dst (.slice (some ⟨b, off, none⟩) n cap)) w) :
    if Region.wanted o (yielded ops a.tmps) = true then Oper.wp P o a w K Q else E := by
  subst hm
  exact step_append_room hg s x t hop e i size h1 h2 h4 b off n cap hs ad 0 c [] hx (by simp) (by simp) (by simp) (by omega) (by simp) hK
theorem ins_row_end {W : World} {B n : Nat} {v : Value} {k : List UInt8} {key : ByteArray} {ss : List (List UInt8)} (ha : ahead_ k ss = ss.length) (hk : encStr k = .string key)
    (h : W.ownsRow B 9 1 v n (ss.map encStr ++ [.string key])) : W.ownsRow B 9 1 v (ins k ss).length ((ins k ss).map encStr) := by
  have e2 : ins k ss = ss ++ [k] := by
    unfold ins
    rw [ha, List.take_length, List.drop_length]
  have e3 : n = ss.length + 1 := by have := h.1; simpa using this.symm
  rw [e2, List.length_append, List.map_append, List.map_singleton, hk]
  rw [e3] at h
  exact h
theorem news_drop {W : World} {B go co j : Nat} {ss : List (List UInt8)} (h : W.ownsRow B 9 1 (.slice (some ⟨go, 0, none⟩) ss.length co) ss.length (ss.map encStr)) (hj : j ≤ ss.length) :
    ∀ t u, ((ss.drop j).map encStr)[t]? = some u → W.cell? ((⟨go, j, none⟩ : Addr).add t) = some u := fun t u hu => by
  rw [add_at]
  have ht : t < ss.length - j := by
    rcases Nat.lt_or_ge t (ss.length - j) with h1 | h1
    · exact h1
    · rw [List.getElem?_eq_none (by simpa using h1)] at hu
      cases hu
  have := h.cellAt (j + t) (by omega)
  rw [this, List.getElem?_map]
  rw [List.getElem?_map, List.getElem?_drop] at hu
  exact hu
def RR (W : World) (l : List E) (p : List UInt8) (v i : Value) (wr : World) : Prop :=
  ∃ k : Nat, k ≤ l.length ∧ i = .int .i64 k ∧ wr.ownsRow W.heap.size 9 1 v (rk (l.take k) p).length ((rk (l.take k) p).map encStr) ∧ Below W.heap.size W wr
def ArgKeys (w : World) (a : Option Addr) (l : List E) : Prop := 0 < l.length → ∃ g, a = some ⟨g, 0, none⟩ ∧ ∀ i (hi : i < l.length), w.cell? ⟨g, i * 4, none⟩ = some (.string l[i].key)
set_option maxRecDepth 100000 in
set_option maxHeartbeats 4000000 in
theorem rkeys_any {w : World} {a : Option Addr} {c : Nat} {l : List E} {r : Bool} (h : ArgKeys w a l) (hl : l.length < 1000000) (p : ByteArray) :
    Calls Try.prog 19 #[.agg #[.slice a l.length c, .bool r], .string p] w fun x w' => ∃ v', x = .returned v' ∧ Below w.heap.size w w' ∧ w'.ownsRow w.heap.size 9 1 v' (rk l p.data.toList).length ((rk l p.data.toList).map encStr) := by
  obtain ⟨i0, hi0, hz0, hz1, hz2⟩ := info_parts info9
  go_enter Try.func19, Try.ntmps19
  go_wp2_with (fail)
  go_loopw [5, 6] (fun v i wr => RR w l p.data.toList v i wr ∧ wr.heap[w.heap.size]? = some (.cells #[.slice a l.length c, .bool r] 41 (0, 0))) (fun _ i _ => l.length - (intOf i).toNat)
  case atStart => exact ⟨⟨0, Nat.zero_le _, rfl, ⟨rfl, .inl ⟨rfl, rfl⟩⟩, (Below.refl _ _).alloc (Nat.le_refl _) _⟩, heap_alloc_new w _⟩
  case round =>
    obtain ⟨⟨k, hk, rfl, hown, hB⟩, hb⟩ := hrel
    have b0 : wr.cell? ⟨w.heap.size, 0, none⟩ = some (.slice a l.length c) := blk_cell hb 0
    by_cases hlt : k < l.length
    · obtain ⟨gs, rfl, cj⟩ := h (by omega)
      have x0 : wr.cell? ⟨gs, k * 4, none⟩ = some (.string l[k].key) := by
        have hc := cj k hlt
        exact (hB.cell (p := ⟨gs, k * 4, none⟩) (World.block_lt_of_cell? w _ hc)).trans hc
      clear cj
      have ik0 : (0 : Int) ≤ (k : Int) := by omega
      have ik1 : (k : Int) < (l.length : Int) := by omega
      have hkl := rk_len (l.take k) p.data.toList
      have htl : (l.take k).length ≤ k := List.length_take_le _ _
      have sn := rk_snoc (l.take k) l[k] p.data.toList
      rw [← take_snoc l k hlt] at sn
      have SN := Lib.hid sn
      clear sn
      have EK := Lib.hid (enc_k l[k])
      by_cases hpl : l[k].key.size < p.size
      · have HP := Lib.hid (pre_short hpl)
        go_wp2_with (fail)
        go_roundw
        case rel =>
          refine ⟨⟨k + 1, by omega, by go_num, ?_, hB⟩, hb⟩
          have s2 := SN.out
          rw [show Lib.hasPrefix l[k].k p.data.toList = false from HP.out] at s2
          rw [s2]
          simpa using hown
        case measure => simp [intOf]; omega
      · have hpe := pre_eq hpl
        cases hp : ((l[k].key.extract 0 p.size).toList == p.toList) with
        | false =>
          have HP := Lib.hid (hpe.trans hp)
          clear hpe
          go_wp2_with (fail)
          go_roundw
          case rel =>
            refine ⟨⟨k + 1, by omega, by go_num, ?_, hB⟩, hb⟩
            have s2 := SN.out
            rw [show Lib.hasPrefix l[k].k p.data.toList = false from HP.out] at s2
            rw [s2]
            simpa using hown
          case measure => simp [intOf]; omega
        | true =>
          have HP := Lib.hid (hpe.trans hp)
          clear hpe
          go_wp2_with (fail)
          obtain ⟨ao, co, rfl, hco⟩ : ∃ ao co, u5 = .slice ao (rk (l.take k) p.data.toList).length co ∧ (rk (l.take k) p.data.toList).length ≤ co := by
            rcases hown.2 with ⟨h1, h2⟩ | ⟨g', cap, cur, h1, _, _, h4, _⟩
            · rw [h2]; exact ⟨_, _, h1, Nat.le_refl _⟩
            · exact ⟨_, _, h1, h4⟩
          obtain ⟨ss, hss⟩ : ∃ ss, ss = rk (l.take k) p.data.toList := ⟨_, rfl⟩
          rw [← hss] at hown hkl hco
          have SS := Lib.hid hss
          go_loop [8] (fun i => ∃ j : Nat, j ≤ ss.length ∧ i = .int .i64 j ∧ ∀ t (ht : t < j) (h2 : t < ss.length), Op.bytesLess ss[t] l[k].k = true) (fun i => ss.length - (intOf i).toNat)
          case atStart => exact ⟨0, Nat.zero_le _, rfl, fun t ht => absurd ht (Nat.not_lt_zero _)⟩
          case round =>
            obtain ⟨j, hj, rfl, hno⟩ := hrel
            have HN := Lib.hid hno
            clear hno
            rw [← hss]
            clear hss
            by_cases hjl : j < ss.length
            · obtain ⟨go, rfl⟩ : ∃ go, ao = some ⟨go, 0, none⟩ := by
                rcases hown.2 with ⟨h1, h2⟩ | ⟨g', cap, cur, h1, _⟩
                · omega
                · injection h1 with e1
                  exact ⟨g', e1⟩
              have y0 : wr.cell? ⟨go, j, none⟩ = some (.string ⟨ss[j].toArray⟩) := by
                have := hown.cellAt j (by omega)
                rw [this, List.getElem?_map, List.getElem?_eq_getElem hjl]
                rfl
              have ij0 : (0 : Int) ≤ (j : Int) := by omega
              have ij1 : (j : Int) < (ss.length : Int) := by omega
              cases hb2 : Op.bytesLess ss[j] l[k].key.toList with
              | true =>
                go_wp2_with (fail)
                go_round
                case rel =>
                  refine ⟨j + 1, by omega, by go_num, fun t ht h2 => ?_⟩
                  rcases Nat.lt_or_ge t j with h1 | h1
                  · exact HN.out t h1 h2
                  · obtain rfl : t = j := by omega
                    have e1 : l[k].key.toList = l[k].k := Lib.toList_data _
                    rw [← e1]
                    exact hb2
                case measure => simp [intOf]; omega
              | false =>
                have ha : ahead_ l[k].k ss = j := ahead_at hj (fun t ht => HN.out t ht (by omega)) (fun _ => by
                  have e1 : l[k].key.toList = l[k].k := Lib.toList_data _
                  rw [← e1]
                  exact hb2)
                have HA := Lib.hid ha
                clear ha
                have hB2 := hB.size
                have own1 : ((wr.alloc (Obj.cells #[.string l[k].key] 9)).drew).ownsRow wr.heap.size 9 1 (.slice (some ⟨wr.heap.size, 0, none⟩) 1 1) 1 [.string l[k].key] :=
                  ⟨rfl, .inr ⟨wr.heap.size, 1, #[.string l[k].key], rfl, Nat.le_refl _, heap_alloc_new _ _, Nat.le_refl _, by unfold maxLen; omega, rfl, rfl⟩⟩
                have own0 : ((wr.alloc (Obj.cells #[.string l[k].key] 9)).drew).ownsRow w.heap.size 9 1 (.slice (some ⟨go, 0, none⟩) ss.length co) ss.length (ss.map encStr) := (hown.alloc _).drew
                have hns := news_drop own0 hj
                have hgo : go < wr.heap.size := (hown.lt go rfl).2
                have htk : ∀ {w1 : World}, ((wr.alloc (Obj.cells #[.string l[k].key] 9)).drew).grownBy w1 (Value.ownBlock (.slice (some ⟨wr.heap.size, 0, none⟩) 1 1)) → w1.ownsRow w.heap.size 9 1 (.slice (some ⟨go, 0, none⟩) j co) j ((ss.map encStr).take (j * 1)) := fun hg =>
                  own_take (own_after own0 hg (fun e => by have h9 : go = wr.heap.size := Option.some.inj e; omega)) hj
                go_wp2_with (fail)
                clear hb2
                have jc : j ≤ co := by omega
                have jc2 : ¬ co = j := by omega
                have jl : j ≤ ss.length := by omega
                go_region_law (first
                  | (refine step_append_lies _ (by rfl) _ _ _ (by rfl) wr.heap.size 9 i0 _ 1 16 Try.underlying51 hi0 hz0 hz1 hz2 rfl (by omega) (.slice (some ⟨wr.heap.size, 0, none⟩) 1 1) 1 [.string l[k].key] (by rfl) own1 ⟨go, j, none⟩ (ss.length - j) (co - j) ((ss.drop j).map encStr) (by rfl) (by simp) hns (one_encs _) (by omega) (by unfold maxLen; omega) (by omega) (by simp) (wr.heap.size + 1) (by simp) ?_; intro g1 cap1 w1 hown1 hgrow1 hat1 hlt1; have hown2 := htk hgrow1)
                  | (refine step_append_lies _ (by rfl) _ _ _ (by rfl) w.heap.size 9 i0 _ 1 16 Try.underlying51 hi0 hz0 hz1 hz2 rfl (by omega) (.slice (some ⟨go, 0, none⟩) j co) j _ (by rfl) hown2 ⟨g1, 0, none⟩ (1 + (ss.length - j)) cap1 ([.string l[k].key] ++ (ss.drop j).map encStr) (by rfl) (by simp; omega) (fun t u hu => by rw [add_zero_at]; have := hown1.cellAt t (by have := List.getElem?_eq_some_iff.1 hu; obtain ⟨h9, _⟩ := this; simp at h9; omega); rw [this]; exact hu) (one_encs (l[k].k :: ss.drop j)) (by omega) (by unfold maxLen; omega) (by omega) (by have := hgrow1.size; simp at this; omega) w1.heap.size rfl ?_; intro g2 cap2 w2 hown3 hgrow2 hat2 hlt2))
                go_wp2_with (fail)
                go_roundw
                case rel =>
                  have szA : (wr.alloc (Obj.cells #[.string l[k].key] 9)).drew.heap.size = wr.heap.size + 1 := by show (wr.heap.push _).size = _; simp
                  have sz1 := hgrow1.size
                  rw [szA] at sz1
                  refine ⟨⟨k + 1, by omega, by go_num, ?_, ?_⟩, ?_⟩
                  · have s2 := SN.out
                    rw [show Lib.hasPrefix l[k].k p.data.toList = true from HP.out] at s2
                    rw [s2]
                    simp only [if_true]
                    rw [← SS.out]
                    exact ins_row HA.out hj EK.out hown3
                  · exact ((((hB.alloc hB2 _).drew).grown hgrow1 (by rw [szA]; omega) (fun b hb => by have h9 : wr.heap.size = b := Option.some.inj hb; omega)).grown hgrow2 (by omega) (fun b hb => by have h9 : go = b := Option.some.inj hb; have := (hown.lt go rfl).1; omega))
                  · have hwb : w.heap.size < wr.heap.size := (Array.getElem?_eq_some_iff.1 hb).1
                    have hgw : go ≠ w.heap.size := by
                      rcases hown.2 with ⟨h1, h2⟩ | ⟨g', cap, cur, h1, _, h4, _⟩
                      · cases h1
                      · injection h1 with e1
                        injection e1 with e1
                        injection e1 with e1
                        subst e1
                        intro e2
                        rw [e2, hb] at h4
                        cases h4
                    rw [hgrow2.block w.heap.size (by omega) (fun e => hgw (Option.some.inj e).symm), hgrow1.block w.heap.size (by rw [szA]; omega) (fun e => by have h9 : w.heap.size = wr.heap.size := Option.some.inj e; omega)]
                    exact (Below.heap_alloc wr _ _ hwb).trans hb
                case measure => simp [intOf]; omega
            · obtain rfl : j = ss.length := by omega
              have ha : ahead_ l[k].k ss = ss.length := ahead_at hj (fun t ht => HN.out t ht ht) (fun h => absurd h (by omega))
              have HA := Lib.hid ha
              clear ha hjl
              have hB2 := hB.size
              have szA : (wr.alloc (Obj.cells #[.string l[k].key] 9)).drew.heap.size = wr.heap.size + 1 := by show (wr.heap.push _).size = _; simp
              rcases hown.2 with ⟨h1, h2⟩ | ⟨g', cap, cur, h1, _, h4, _⟩
              · have e0 : ss = [] := List.eq_nil_of_length_eq_zero h2
                injection h1 with e1 e2 e3
                subst e1
                subst e3
                subst e0
                have own0 : ((wr.alloc (Obj.cells #[.string l[k].key] 9)).drew).ownsRow w.heap.size 9 1 (.slice none 0 0) 0 ([] : List Value) := ⟨rfl, .inl ⟨rfl, rfl⟩⟩
                go_wp2_with (fail)
                go_region_law (first
                  | (refine step_append_lies _ (by rfl) _ _ _ (by rfl) w.heap.size 9 i0 _ 1 16 Try.underlying51 hi0 hz0 hz1 hz2 rfl (by omega) (.slice none 0 0) 0 [] (by rfl) own0 ⟨wr.heap.size, 0, none⟩ 1 1 ([.string l[k].key]) (by rfl) (by rfl) (World.news_of_block (cs := #[.string l[k].key]) (t := 9) (fr := (0, 0)) (heap_alloc_new _ _)) (by simp [Value.oneCell']) (by omega) (by unfold maxLen; omega) (by omega) (by rw [szA]; omega) _ szA ?_; intro g2 cap2 w2 hown3 hgrow2 hat2 hlt2)
                  | fail)
                go_wp2_with (fail)
                go_roundw
                case rel =>
                  refine ⟨⟨k + 1, by omega, by go_num, ?_, ?_⟩, ?_⟩
                  · have s2 := SN.out
                    rw [show Lib.hasPrefix l[k].k p.data.toList = true from HP.out] at s2
                    rw [s2]
                    simp only [if_true]
                    rw [← SS.out]
                    exact ins_row_end HA.out EK.out hown3
                  · exact ((hB.alloc hB2 _).drew).grown hgrow2 (by rw [szA]; omega) (fun b hb => by cases hb)
                  · have hwb : w.heap.size < wr.heap.size := (Array.getElem?_eq_some_iff.1 hb).1
                    rw [hgrow2.block w.heap.size (by rw [szA]; omega) (fun e => by cases e)]
                    exact (Below.heap_alloc wr _ _ hwb).trans hb
                case measure => simp [intOf]; omega
              · injection h1 with e1 _ e3
                subst e1
                subst e3
                obtain ⟨go, rfl⟩ : ∃ go, go = g' := ⟨_, rfl⟩
                have hgw : go ≠ w.heap.size := by
                  intro e2
                  rw [e2, hb] at h4
                  cases h4
                have own0 : ((wr.alloc (Obj.cells #[.string l[k].key] 9)).drew).ownsRow w.heap.size 9 1 (.slice (some ⟨go, 0, none⟩) ss.length co) ss.length (ss.map encStr) := (hown.alloc _).drew
                have hgo : go < wr.heap.size := (hown.lt go rfl).2
                clear h4
                go_wp2_with (fail)
                by_cases hcj : co = ss.length
                · subst hcj
                  go_region_law (first
                    | (refine step_append_zero (by rfl) _ _ _ (by rfl) 9 i0 1 Try.underlying51 hi0 hz1 wr.heap.size 0 1 1 (by rfl) _ _ _ (by rfl) (by omega) (by omega) ?_)
                    | (refine step_append_lies _ (by rfl) _ _ _ (by rfl) w.heap.size 9 i0 _ 1 16 Try.underlying51 hi0 hz0 hz1 hz2 rfl (by omega) (.slice (some ⟨go, 0, none⟩) ss.length ss.length) ss.length _ (by rfl) own0 ⟨wr.heap.size, 0, none⟩ 1 1 ([.string l[k].key]) (by rfl) (by rfl) (World.news_of_block (cs := #[.string l[k].key]) (t := 9) (fr := (0, 0)) (heap_alloc_new _ _)) (by simp [Value.oneCell']) (by omega) (by unfold maxLen; omega) (by omega) (by rw [szA]; omega) _ szA ?_; intro g2 cap2 w2 hown3 hgrow2 hat2 hlt2)
                    | fail)
                  go_wp2_with (fail)
                  go_roundw
                  case rel =>
                    refine ⟨⟨k + 1, by omega, by go_num, ?_, ?_⟩, ?_⟩
                    · have s2 := SN.out
                      rw [show Lib.hasPrefix l[k].k p.data.toList = true from HP.out] at s2
                      rw [s2]
                      simp only [if_true]
                      rw [← SS.out]
                      exact ins_row_end HA.out EK.out hown3
                    · exact ((hB.alloc hB2 _).drew).grown hgrow2 (by rw [szA]; omega) (fun b hb => by have h9 : go = b := Option.some.inj hb; have := (hown.lt go rfl).1; omega)
                    · have hwb : w.heap.size < wr.heap.size := (Array.getElem?_eq_some_iff.1 hb).1
                      rw [hgrow2.block w.heap.size (by rw [szA]; omega) (fun e => hgw (Option.some.inj e).symm)]
                      exact (Below.heap_alloc wr _ _ hwb).trans hb
                  case measure => simp [intOf]; omega
                · go_region_law (first
                    | (refine step_append_zero (by rfl) _ _ _ (by rfl) 9 i0 1 Try.underlying51 hi0 hz1 wr.heap.size 0 1 1 (by rfl) _ _ _ (by rfl) (by omega) (by omega) ?_)
                    | (refine step_append_lies _ (by rfl) _ _ _ (by rfl) w.heap.size 9 i0 _ 1 16 Try.underlying51 hi0 hz0 hz1 hz2 rfl (by omega) (.slice (some ⟨go, 0, none⟩) ss.length co) ss.length _ (by rfl) own0 ⟨wr.heap.size, 0, none⟩ 1 1 ([.string l[k].key]) (by rfl) (by rfl) (World.news_of_block (cs := #[.string l[k].key]) (t := 9) (fr := (0, 0)) (heap_alloc_new _ _)) (by simp [Value.oneCell']) (by omega) (by unfold maxLen; omega) (by omega) (by rw [szA]; omega) _ szA ?_; intro g2 cap2 w2 hown3 hgrow2 hat2 hlt2)
                    | fail)
                  go_wp2_with (fail)
                  go_roundw
                  case rel =>
                    refine ⟨⟨k + 1, by omega, by go_num, ?_, ?_⟩, ?_⟩
                    · have s2 := SN.out
                      rw [show Lib.hasPrefix l[k].k p.data.toList = true from HP.out] at s2
                      rw [s2]
                      simp only [if_true]
                      rw [← SS.out]
                      exact ins_row_end HA.out EK.out hown3
                    · exact ((hB.alloc hB2 _).drew).grown hgrow2 (by rw [szA]; omega) (fun b hb => by have h9 : go = b := Option.some.inj hb; have := (hown.lt go rfl).1; omega)
                    · have hwb : w.heap.size < wr.heap.size := (Array.getElem?_eq_some_iff.1 hb).1
                      rw [hgrow2.block w.heap.size (by rw [szA]; omega) (fun e => hgw (Option.some.inj e).symm)]
                      exact (Below.heap_alloc wr _ _ hwb).trans hb
                  case measure => simp [intOf]; omega
    · obtain rfl : k = l.length := by omega
      rw [List.take_length] at hown
      go_wp2_with (fail)
      go_ret
      exact ⟨_, rfl, hB, hown⟩
end Go.Proofs.Ytbifmgenljjleaa.Sp
