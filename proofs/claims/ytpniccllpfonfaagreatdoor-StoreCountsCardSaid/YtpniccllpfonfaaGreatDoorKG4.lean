-- Texts of this session put together by a program of it (wip/pack.py).
import Derived.StillTail
import Derived.Deep.Quiet
import Derived.Lib.QuietBelow
import Derived.Test.YtpniccllpfonfaaGreatDoorKG3
import Derived.Test.YtpniccllpfonfaaGreatDoorKQ8
import Derived.Test.YtpniccllpfonfaaGreatDoorKWAll
import Derived.Test.YtpniccllpfonfaaGreatDoorKQ13
import Derived.Test.YtpniccllpfonfaaGreatDoorKQ14
namespace Go.Proofs.YtpniccllpfonfaaGreatDoor.Qt
open Go
/-- The first operations have no guard, and wait for earlier ones alone. -/
def headB (ops : Array Oper) (n : Nat) : Bool :=
  (List.range n).all fun i => match ops[i]? with
    | some o => o.guard.isNone && o.after.all fun e => decide (e.on < i)
    | none => false
def left (n : Nat) (listed : Array Bool) : List Nat := (List.range n).filter fun i => !listed.getD i true
theorem left_pos {n : Nat} {listed : Array Bool} {f : Nat} (h : (left n listed).length = f + 1) : ∃ i, i < n ∧ listed.getD i true = false := by
  cases hl : left n listed with
  | nil => rw [hl] at h; cases h
  | cons i r =>
    have hi : i ∈ left n listed := by rw [hl]; simp
    have := List.mem_filter.1 hi
    exact ⟨i, by simpa using this.1, by simpa using this.2⟩
theorem left_zero {n : Nat} {listed : Array Bool} (h : (left n listed).length = 0) : ∀ i, i < n → listed.getD i true = true := fun i hi => by
  cases hb : listed.getD i true with
  | true => rfl
  | false =>
    have : i ∈ left n listed := List.mem_filter.2 ⟨by simpa using hi, by simp [hb]⟩
    rw [List.eq_nil_of_length_eq_zero h] at this
    cases this
theorem filter_set (_n : Nat) (listed : Array Bool) (i : Nat) (hi : i < listed.size) : ∀ (r : List Nat), r.Nodup → (r.filter fun j => !(listed.setIfInBounds i true).getD j true) = (r.filter fun j => !listed.getD j true).filter fun j => j != i := by
  intro r hr
  rw [List.filter_filter]
  congr 1
  funext j
  by_cases h : i = j
  · subst h
    simp [hi]
  · have h2 : (listed.setIfInBounds i true).getD j true = listed.getD j true := by
      simp only [Array.getD_eq_getD_getElem?, Array.getElem?_setIfInBounds_ne h]
    rw [h2]
    have : (j != i) = true := by simpa using fun e => h e.symm
    rw [this, Bool.true_and]
theorem left_set {n i f : Nat} {listed : Array Bool} (hs : n ≤ listed.size) (hi : i < n) (hu : listed.getD i true = false) (h : (left n listed).length = f + 1) : (left n (listed.setIfInBounds i true)).length = f := by
  have h1 : i ∈ left n listed := List.mem_filter.2 ⟨by simpa using hi, by simp [hu]⟩
  have h2 : (left n listed).Nodup := List.nodup_range.filter _
  have h3 : left n (listed.setIfInBounds i true) = (left n listed).filter fun j => j != i := filter_set n listed i (by omega) _ List.nodup_range
  have h4 : (left n listed).filter (fun j => j != i) = (left n listed).erase i := (List.Nodup.erase_eq_filter h2 i).symm
  rw [h3, h4, List.length_erase_of_mem h1, h]
  rfl
/-- The first ones listed. -/
def fullTo : Nat → Array Bool → Array Bool
  | 0, b => b
  | n + 1, b => (fullTo n b).setIfInBounds n true
theorem fullTo_size : ∀ n b, (fullTo n b).size = b.size
  | 0, _ => rfl
  | n + 1, b => by rw [fullTo, Array.size_setIfInBounds, fullTo_size n b]
theorem fullTo_getD : ∀ (n : Nat) (b : Array Bool) (i : Nat), i < b.size → (fullTo n b).getD i true = if i < n then true else b.getD i true
  | 0, b, i, h => by simp [fullTo]
  | n + 1, b, i, h => by
    rw [fullTo]
    by_cases hi : n = i
    · subst hi
      simp [fullTo_size, h]
    · have h2 : ((fullTo n b).setIfInBounds n true).getD i true = (fullTo n b).getD i true := by
        simp only [Array.getD_eq_getD_getElem?, Array.getElem?_setIfInBounds_ne hi]
      rw [h2, fullTo_getD n b i h]
      by_cases h3 : i < n
      · rw [if_pos h3, if_pos (by omega)]
      · rw [if_neg h3, if_neg (by omega)]
/-- Listed from k on, f of them. -/
def fromTo : Nat → Nat → Array Bool → Array Bool
  | 0, _, b => b
  | f + 1, k, b => fromTo f (k + 1) (b.setIfInBounds k true)
theorem fromTo_snoc : ∀ (f k : Nat) (b : Array Bool), fromTo (f + 1) k b = (fromTo f k b).setIfInBounds (k + f) true
  | 0, k, b => rfl
  | f + 1, k, b => by
    have := fromTo_snoc f (k + 1) (b.setIfInBounds k true)
    rw [fromTo, this, fromTo, show k + 1 + f = k + (f + 1) by omega]
theorem fromTo_full : ∀ (n : Nat) (b : Array Bool), fromTo n 0 b = fullTo n b
  | 0, _ => rfl
  | n + 1, b => by rw [fromTo_snoc, fromTo_full n b, fullTo, Nat.zero_add]
theorem lexHead_from {ops : Array Oper} {g : Nat} : ∀ (f k : Nat) (b : Array Bool), Region.lexHead .any ops g f k b = true → Region.seqB .any ops g (k + f) (fromTo f k b) = true
  | 0, k, b, h => h
  | f + 1, k, b, h => by
    simp only [Region.lexHead, Bool.and_eq_true] at h
    have := lexHead_from f (k + 1) _ h.2
    rw [show k + (f + 1) = k + 1 + f by omega]
    exact this
theorem lexHead_full {ops : Array Oper} {g : Nat} (n _k : Nat) (b : Array Bool) (h : Region.lexHead .any ops g n 0 b = true) : Region.seqB .any ops g n (fullTo n b) = true := by
  have := lexHead_from n 0 b h
  rw [Nat.zero_add, fromTo_full] at this
  exact this
theorem getD_in2 {listed : Array Bool} {i : Nat} (hi : i < listed.size) : listed.getD i true = listed.getD i false := by simp [hi]
theorem least {n : Nat} {listed : Array Bool} : ∀ i, i < n → listed.getD i true = false → ∃ j, j < n ∧ listed.getD j true = false ∧ ∀ k, k < j → listed.getD k true = true := by
  intro i
  induction i using Nat.strongRecOn with
  | _ i ih =>
    intro hi hu
    by_cases h : ∃ k, k < i ∧ listed.getD k true = false
    · obtain ⟨k, hk, hku⟩ := h
      exact ih k hk (by omega) hku
    · refine ⟨i, hi, hu, fun k hk => ?_⟩
      cases hb : listed.getD k true with
      | true => rfl
      | false => exact absurd ⟨k, hk, hb⟩ h
theorem headB_spec {ops : Array Oper} {n i : Nat} (h : headB ops n = true) (hi : i < n) : ∃ o, ops[i]? = some o ∧ o.guard = none ∧ ∀ e ∈ o.after, e.on < i := by
  have h1 := List.all_eq_true.1 h i (List.mem_range.2 hi)
  cases ho : ops[i]? with
  | none => rw [ho] at h1; cases h1
  | some o =>
    rw [ho] at h1
    simp only [Bool.and_eq_true] at h1
    refine ⟨o, rfl, by simpa using h1.1, fun e he => ?_⟩
    have := Array.all_eq_true'.1 h1.2 e he
    simpa using this
theorem quiet_head {P : Program} {ops ops1 : Array Oper} {C : World → Prop} {Q1 : Act → Prop} {Q' : Exit → Act → World → Prop} {n g : Nat} (hs : Region.sinkB .any ops n = true) (hc : Region.chainB .any ops n = true) (hn : n < ops.size) (hh : headB ops n = true) (h1 : ops1.size = n) (hp : ∀ i, i < n → ops1[i]? = ops[i]?)
    (hL : ∀ listed a w, C w → Q1 a → HeadInv .any ops n listed → (∀ i, i < n → listed.getD i true = true) → wpAny P .any ops Q' g listed a w) :
    ∀ (f : Nat) (listed listed1 : Array Bool) (a : Act) (w : World), C w → HeadInv .any ops n listed → listed1.size = n → (∀ i, i < n → listed1.getD i true = listed.getD i true) → (left n listed).length = f → wpAnyQ P .any ops1 C Q1 f listed1 a → wpAny P .any ops Q' (f + g) listed a w
  | 0, listed, listed1, a, w, hC, inv, hsz, heq, hf, h => by
    rw [Nat.zero_add]
    exact hL listed a w hC h.2 inv (left_zero hf)
  | f + 1, listed, listed1, a, w, hC, inv, hsz, heq, hf, h => by
    rw [show f + 1 + g = (f + g) + 1 by omega]
    obtain ⟨i9, hi9, hu9⟩ := left_pos hf
    obtain ⟨i0, hi0, hu0, hl0⟩ := least i9 hi9 hu9
    have hls : listed.size = ops.size := inv.size
    refine ⟨fun h0 => ?_, fun i hi => ?_⟩
    · obtain ⟨o, ho, _, hb⟩ := headB_spec hh hi0
      have : i0 ∈ Region.ready .any ops listed := mem_ready.2 ⟨hu0, o, ho, fun e he _ => by
        have := hb e he
        rw [← getD_in2 (by omega)]
        exact hl0 _ this⟩
      rw [h0] at this
      cases this
    · have hin : i < n := by
        rcases Nat.lt_or_ge i n with h2 | h2
        · exact h2
        · exact absurd hi (tail_waits hs hc hn inv _ i0 rfl hi0 hu0 i h2)
      obtain ⟨hu, o, ho, hed⟩ := mem_ready.1 hi
      obtain ⟨o', ho', hg, hb⟩ := headB_spec hh hin
      obtain rfl : o = o' := Option.some.inj (ho.symm.trans ho')
      have hi1 : i ∈ Region.ready .any ops1 listed1 := mem_ready.2 ⟨by rw [heq i hin]; exact hu, o, by rw [hp i hin]; exact ho, fun e he hbd => by
        have hei := hb e he
        rw [← getD_in2 (by omega), heq _ (by omega), getD_in2 (by omega)]
        exact hed e he hbd⟩
      have hq := h.2 i hi1
      have hw := wpOp_of_qOp (ops := ops1) (Q' := Q') (K' := wpAny P .any ops Q' (f + g) (listed.setIfInBounds i true)) hC (fun a' w' hC' h' =>
        quiet_head hs hc hn hh h1 hp hL f (listed.setIfInBounds i true) (listed1.setIfInBounds i true) a' w' hC' (inv.set hi hin) (by simp [hsz]) (fun j hj => by
          by_cases hij : i = j
          · subst hij
            simp [hls, hsz, hin, Nat.lt_trans hin hn]
          · simp only [Array.getD_eq_getD_getElem?, Array.getElem?_setIfInBounds_ne hij]
            have := heq j hj
            simpa only [Array.getD_eq_getD_getElem?] using this) (left_set (by omega) hin hu hf) h') hq
      have hwt : ∀ ys, Region.wanted o ys = true := fun ys => by simp [Region.wanted, hg]
      unfold wpOp at hw ⊢
      rw [hp i hin] at hw
      simp only [ho, hwt, if_true] at hw ⊢
      exact hw
theorem wp_region_quiet_tail {P : Program} {C : World → Prop} {id : Nat} {Q : Exit → Act → World → Prop} {a : Act} {w : World} {l : List Oper} (n : Nat) (hm : P.follows .mixedOrders = true) (hB : Region.lexTailB .any l.toArray n = true) (hB1 : Region.lexB .any (l.take n).toArray = true) (hh : headB l.toArray n = true) (hC : C { w with drawn := w.drawn + 1 })
    (h : wpQuiet P (l.take n).toArray C (fun a' => ∀ w', C w' → wpList P l.toArray Q (l.drop n) a' w') (l.take n) a) : (Code.region id l.toArray true).wp P Q a w := by
  simp only [Region.lexTailB, Bool.and_eq_true, decide_eq_true_eq] at hB
  obtain ⟨⟨⟨⟨hsel, hn⟩, hs⟩, hc⟩, hlex⟩ := hB
  simp only [Region.lexB, Bool.and_eq_true] at hB1
  have hn' : n < l.length := by simpa using hn
  have htl : (l.take n).length = n := by simp; omega
  have hdl : (l.drop n).length = l.toArray.size - n := by simp
  have inv0 : HeadInv .any l.toArray n (Array.replicate l.toArray.size false) :=
    ⟨by simp, fun j oj _ hl => (by rw [getD_replicate_false] at hl; cases hl), fun t _ ht => getD_in (by simpa using ht) (getD_replicate_false _ _)⟩
  have hq := wpAnyQ_lex (C := C) (md := .any) hB1.1 (l.take n) 0 (Array.replicate (l.take n).toArray.size false) a (by simp) (by simpa using hB1.2) h
  -- the last ones, behind all the first
  have hseq : ∀ listed : Array Bool, HeadInv .any l.toArray n listed → (∀ i, i < n → listed.getD i true = true) → Region.seqB .any l.toArray (l.toArray.size - n) n listed = true := fun listed inv hall => by
    have e : listed = fullTo n (Array.replicate l.toArray.size false) := by
      apply Array.ext
      · rw [inv.size, fullTo_size]; simp
      · intro i h1 h2
        have hi : i < l.toArray.size := by rw [← inv.size]; exact h1
        have h3 : listed[i] = listed.getD i true := by rw [Array.getD_eq_getD_getElem?, Array.getElem?_eq_getElem h1]; rfl
        have h4 : (fullTo n (Array.replicate l.toArray.size false))[i] = (fullTo n (Array.replicate l.toArray.size false)).getD i true := by rw [Array.getD_eq_getD_getElem?, Array.getElem?_eq_getElem h2]; rfl
        rw [h3, h4, fullTo_getD n _ i (by simpa using hi)]
        by_cases h5 : i < n
        · rw [hall i h5, if_pos h5]
        · rw [inv.tail i (by omega) hi, if_neg h5, getD_in (by simpa using hi) (getD_replicate_false _ _)]
    rw [e]
    exact lexHead_full n 0 _ hlex
  refine wp_region_any hm ?_
  have := quiet_head (P := P) (ops := l.toArray) (ops1 := (l.take n).toArray) (C := C) (Q1 := fun a' => ∀ w', C w' → wpList P l.toArray Q (l.drop n) a' w') (Q' := Q) (g := l.toArray.size - n) hs hc hn hh (by simpa using htl) (fun i hi => by simp [hi]) (fun listed a' w' hC' hq' inv hall => by
    have := wpAny_of_seq (md := .any) (Q' := Q) (l.drop n) n listed a' w' (fun j => by simp [List.getElem?_drop]) (by rw [hdl]; exact hseq listed inv hall) (hq' w' hC')
    rwa [hdl] at this) n (Array.replicate l.toArray.size false) (Array.replicate (l.take n).toArray.size false) a _ hC inv0 (by simpa using htl) (fun i hi => by
      rw [getD_in (by simp; omega) (getD_replicate_false _ _), getD_in (by simp; omega) (getD_replicate_false _ _)]) (by
      unfold left
      have : (List.range n).filter (fun i => !(Array.replicate l.toArray.size false).getD i true) = List.range n := by
        apply List.filter_eq_self.2
        intro i hi
        rw [getD_in (by simp; have := List.mem_range.1 hi; omega) (getD_replicate_false _ _)]
        rfl
      rw [this, List.length_range]) (by rw [htl] at hq; exact hq)
  rw [show n + (l.toArray.size - n) = l.toArray.size by omega] at this
  exact this
end Go.Proofs.YtpniccllpfonfaaGreatDoor.Qt
namespace Go.Proofs.YtpniccllpfonfaaGreatDoor.St
open Go Go.RowKit Go.Sort Go.Proofs.YtpniccllpfonfaaGreatDoorW.PrintWords Go.Proofs.YtpniccllpfonfaaGreatDoor.Wd Go.Proofs.YtpniccllpfonfaaGreatDoor.Q
structure Mb where
  loc : ByteArray
  dom : ByteArray
  mode : Int
  off : Bool
  score : Int
  day : Int
  ticket : Int
  since : Int
def itoaB (n : Int) : ByteArray := ⟨(Lib.itoa n).toArray⟩
def yesB (b : Bool) : ByteArray := if b then ⟨#[121, 101, 115]⟩ else ⟨#[110, 111]⟩
/-- A number as an int has it. -/
def I64 (n : Int) : Prop := -9223372036854775808 ≤ n ∧ n ≤ 9223372036854775807
theorem itoa_f {n : Int} (h : I64 n) : strconv_Itoa.f n = some (itoaB n) := by
  unfold strconv_Itoa.f
  rw [if_pos h.1, if_pos h.2]
  rfl
/-- A member's texts. -/
def rowM (m : Mb) (t wd : ByteArray) : List ByteArray := [t, wd, yesB m.off, itoaB m.score, itoaB m.day, itoaB m.ticket, itoaB m.since, ⟨#[]⟩]
section
variable {w0 w : World}
theorem calls_below {P : Program} {f : FuncId} {args : Array Value} {v : Value} (h : Calls P f args w fun e w' => e = .returned v ∧ Drawn0 w w') : Calls P f args w fun e w' => e = .returned v ∧ Below w.heap.size w w' :=
  h.mono fun _ _ ⟨he, hd⟩ => ⟨he, hd.below⟩
set_option maxRecDepth 100000 in
set_option maxHeartbeats 8000000 in
theorem row_m (hA : Amb w) (m : Mb) (k : Nat) (t wd : ByteArray) (ht : addr_Addr_Text.f k m.loc m.dom = some t) (hw : roster_Word.f m.mode = some wd) (hy : roster_yes.f m.off = some (yesB m.off)) (h1 : I64 m.score) (h2 : I64 m.day) (h3 : I64 m.ticket) (h4 : I64 m.since) (hsz : ∀ s ∈ rowM m t wd, s.size ≤ 90000000) :
    Calls Tryz.prog 76 #[.agg #[.string m.loc, .string m.dom, .int .i64 m.mode, .bool m.off, .int .i64 m.score, .int .i64 m.day, .int .i64 m.ticket, .int .i64 m.since]] w fun e w' => e = .returned (.string ⟨(rowL (rowM m t wd)).toArray⟩) ∧ Below w.heap.size w w' := by
  obtain ⟨W1, hW1⟩ : ∃ W1, W1 = w.alloc (.cells #[.string m.loc, .string m.dom, .int .i64 m.mode, .bool m.off, .int .i64 m.score, .int .i64 m.day, .int .i64 m.ticket, .int .i64 m.since] 47 (0, 0)) := ⟨_, rfl⟩
  have b1 : Below w.heap.size w W1 := by rw [hW1]; exact below_alloc (Below.refl _ _) _
  have bx : W1.heap[w.heap.size]? = some (.cells #[.string m.loc, .string m.dom, .int .i64 m.mode, .bool m.off, .int .i64 m.score, .int .i64 m.day, .int .i64 m.ticket, .int .i64 m.since] 47 (0, 0)) := by rw [hW1]; exact heap_alloc_new w _
  have k0 := cell_regrown (show W1.cell? ⟨w.heap.size, 0, none⟩ = some (.string m.loc) from blk_cell bx 0)
  have k1 := cell_regrown (show W1.cell? ⟨w.heap.size, 1, none⟩ = some (.string m.dom) from blk_cell bx 1)
  have k2 := cell_regrown (show W1.cell? ⟨w.heap.size, 2, none⟩ = some (.int .i64 m.mode) from blk_cell bx 2)
  have k3 := cell_regrown (show W1.cell? ⟨w.heap.size, 3, none⟩ = some (.bool m.off) from blk_cell bx 3)
  have k4 := cell_regrown (show W1.cell? ⟨w.heap.size, 4, none⟩ = some (.int .i64 m.score) from blk_cell bx 4)
  have k5 := cell_regrown (show W1.cell? ⟨w.heap.size, 5, none⟩ = some (.int .i64 m.day) from blk_cell bx 5)
  have k6 := cell_regrown (show W1.cell? ⟨w.heap.size, 6, none⟩ = some (.int .i64 m.ticket) from blk_cell bx 6)
  have k7 := cell_regrown (show W1.cell? ⟨w.heap.size, 7, none⟩ = some (.int .i64 m.since) from blk_cell bx 7)
  have hA1 : ∀ d os, Amb (grow (redrawn W1 d) os) := fun d os => (hA.at b1).at (below_regrown W1 d os)
  have cT := fun d os => Calls.regrown_of (d := d) (os := os) (addr_Addr_Text.calls k m.loc m.dom t (grow (redrawn W1 d) os) ht)
  have cW := fun d os => Calls.regrown_of (d := d) (os := os) (calls_below (roster_Word.calls m.mode wd (grow (redrawn W1 d) os) hw))
  have cY := fun d os => Calls.regrown_of (d := d) (os := os) (calls_below (roster_yes.calls m.off _ (grow (redrawn W1 d) os) hy))
  have c1 := fun d os => Calls.regrown_of (d := d) (os := os) (strconv_Itoa.calls m.score _ (grow (redrawn W1 d) os) (hA1 d os) (itoa_f h1))
  have c2 := fun d os => Calls.regrown_of (d := d) (os := os) (strconv_Itoa.calls m.day _ (grow (redrawn W1 d) os) (hA1 d os) (itoa_f h2))
  have c3 := fun d os => Calls.regrown_of (d := d) (os := os) (strconv_Itoa.calls m.ticket _ (grow (redrawn W1 d) os) (hA1 d os) (itoa_f h3))
  have c4 := fun d os => Calls.regrown_of (d := d) (os := os) (strconv_Itoa.calls m.since _ (grow (redrawn W1 d) os) (hA1 d os) (itoa_f h4))
  have HSZ := Lib.hid hsz
  clear ht hw hy h1 h2 h3 h4 hsz hA1 bx
  have mixed : Tryz.prog.follows Departure.mixedOrders = true := by kernel_rfl
  go_enter Tryz.func76, Tryz.ntmps76
  go_wp2_with (fail)
  rw [← hW1]
  clear hW1
  refine Qt.wp_region_quiet_tail (C := fun w' => ∃ p : Regrown, w' = grow (redrawn W1 p.d) p.os) 21 mixed (by kernel_rfl) (by kernel_rfl) (by kernel_rfl) ⟨⟨W1.drawn + 1, #[]⟩, by rw [grow_empty]; rfl⟩ ?_
  simp only [List.take_succ_cons, List.take_zero]
  repeat (quiet_step (first | exact cT _ _ | exact cW _ _ | exact cY _ _ | exact c1 _ _ | exact c2 _ _ | exact c3 _ _ | exact c4 _ _))
  refine wpQuiet_nil ?_
  intro w' hw'
  obtain ⟨⟨dq, osq⟩, hw''⟩ := hw'
  subst hw''
  simp only [List.drop_succ_cons, List.drop_zero]
  have b2 := below_regrown W1 dq osq
  obtain ⟨W2, hW2⟩ : ∃ W2, W2 = grow (redrawn W1 dq) osq := ⟨_, rfl⟩
  rw [← hW2] at b2 ⊢
  clear hW2 k0 k1 k2 k3 k4 k5 k6 k7 cT cW cY c1 c2 c3 c4
  have s1 := b1.size
  have s2 := b2.size
  have b12 : Below w.heap.size w W2 := b1.trans (b2.mono s1)
  go_wp2_with (go_at_call 114; refine (row_any (m := 90000000) (l := rowM m t wd) (texts_at (g := W2.heap.size) (heap_alloc_new W2 _)) (by simp [rowM]) HSZ.out (by omega)).mono ?_; rintro e w4 ⟨rfl, b4⟩)
  go_ret
  exact ⟨rfl, (below_alloc b12 _).trans (b4.mono (by simp; omega))⟩
end
end Go.Proofs.YtpniccllpfonfaaGreatDoor.St
namespace Go.Proofs.YtpniccllpfonfaaGreatDoor.St
open Go Go.RowKit Go.Sort Go.Proofs.YtpniccllpfonfaaGreatDoorW.PrintWords Go.Proofs.YtpniccllpfonfaaGreatDoor.Wd Go.Proofs.YtpniccllpfonfaaGreatDoor.Q
theorem eqA45 (d : Nat) (w : World) (x0 y0 : ByteArray) (x1 y1 : ByteArray) :
    (Op.equalIn (d + 2) 45 (.agg #[.string x0, .string x1]) (.agg #[.string y0, .string y1])).run Tryz.prog w = .ok (x0.toList == y0.toList && (x1.toList == y1.toList)) w := by
  refine eqA_of Tryz.underlying45 (by kernel_rfl) ?_
  refine eqf_cons (by rfl) (by go_simp; rfl) (by go_simp; rfl) (by go_simp) ?_
  exact eqf_last (by rfl) (by go_simp; rfl) (by go_simp; rfl) (by go_simp)
attribute [local go_sem high] eqA45
section
variable {w0 w : World}
set_option maxRecDepth 100000 in
set_option maxHeartbeats 8000000 in
theorem right_ok (k : Nat) (lo dom : ByteArray) (hy : addr_why.f k lo dom = some 0) (hf : glyph_Fold.f dom = some dom) :
    Calls Tryz.prog 144 #[.agg #[.string lo, .string dom]] w fun e w' => e = .returned (.bool true) ∧ Below w.heap.size w w' := by
  obtain ⟨W1, hW1⟩ : ∃ W1, W1 = w.alloc (.cells #[.string lo, .string dom] 45 (0, 0)) := ⟨_, rfl⟩
  have b1 : Below w.heap.size w W1 := by rw [hW1]; exact below_alloc (Below.refl _ _) _
  have bx : W1.heap[w.heap.size]? = some (.cells #[.string lo, .string dom] 45 (0, 0)) := by rw [hW1]; exact heap_alloc_new w _
  have k0 := cell_regrown (show W1.cell? ⟨w.heap.size, 0, none⟩ = some (.string lo) from blk_cell bx 0)
  have k1 := cell_regrown (show W1.cell? ⟨w.heap.size, 1, none⟩ = some (.string dom) from blk_cell bx 1)
  have cT := fun d os => Calls.regrown_of (d := d) (os := os) (addr_why.calls k lo dom 0 (grow (redrawn W1 d) os) hy)
  have cF := fun d os => Calls.regrown_of (d := d) (os := os) (glyph_Fold.calls dom dom (grow (redrawn W1 d) os) hf)
  have mixed : Tryz.prog.follows Departure.mixedOrders = true := by kernel_rfl
  clear hy hf bx
  go_enter Tryz.func144, Tryz.ntmps144
  go_wp2_with (fail)
  rw [← hW1]
  clear hW1
  refine wp_region_quiet_below mixed (by kernel_rfl) ?_
  repeat (quiet_step (first | exact cT _ _ | exact cF _ _))
  refine wpQuiet_nil ?_
  intro _ hw'
  obtain ⟨⟨dq, osq⟩, hw''⟩ := hw'
  subst hw''
  go_wp2
  go_ret
  exact ⟨rfl, b1.trans ((below_regrown W1 dq osq).mono b1.size)⟩
theorem cell_then {w' : World} {p : Addr} {v : Value} (hb : Below w.heap.size w w') (h : w.cell? p = some v) : w'.cell? p = some v := (hb.cell (World.block_lt_of_cell? w p h)).trans h
/-- A member's own numbers. -/
structure NumOk (m : Mb) (nd : Bool) : Prop where
  score : roster_number.f m.score = some true
  day : roster_number.f m.day = some nd
  dayOk : nd = true ∨ m.day = -1
  ticket : roster_number.f m.ticket = some true
  since : roster_number.f m.since = some true
set_option maxRecDepth 100000 in
set_option maxHeartbeats 8000000 in
theorem sound_ok (m : Mb) (nd : Bool) (k : Nat) (wd : ByteArray) (hy : addr_why.f k m.loc m.dom = some 0) (hf : glyph_Fold.f m.dom = some m.dom) (hw : roster_Word.f m.mode = some wd) (hwe : wd.toList.isEmpty = false) (hn : NumOk m nd) :
    Calls Tryz.prog 102 #[.agg #[.string m.loc, .string m.dom, .int .i64 m.mode, .bool m.off, .int .i64 m.score, .int .i64 m.day, .int .i64 m.ticket, .int .i64 m.since]] w fun e w' => e = .returned (.bool true) ∧ Below w.heap.size w w' := by
  obtain ⟨lo, dom, md, off, sc, dy, ti, si⟩ := m
  obtain ⟨n1, n2, n3, n4, n5⟩ := hn
  simp only at hy hf hw n1 n2 n3 n4 n5 ⊢
  obtain ⟨W1, hW1⟩ : ∃ W1, W1 = w.alloc (.cells #[.string lo, .string dom, .int .i64 md, .bool off, .int .i64 sc, .int .i64 dy, .int .i64 ti, .int .i64 si] 47 (0, 0)) := ⟨_, rfl⟩
  have b1 : Below w.heap.size w W1 := by rw [hW1]; exact below_alloc (Below.refl _ _) _
  have bx : W1.heap[w.heap.size]? = some (.cells #[.string lo, .string dom, .int .i64 md, .bool off, .int .i64 sc, .int .i64 dy, .int .i64 ti, .int .i64 si] 47 (0, 0)) := by rw [hW1]; exact heap_alloc_new w _
  have cell : ∀ j v, #[Value.string lo, .string dom, .int .i64 md, .bool off, .int .i64 sc, .int .i64 dy, .int .i64 ti, .int .i64 si][j]? = some v → ∀ W, Below W1.heap.size W1 W → W.cell? ⟨w.heap.size, j, none⟩ = some v := fun j v hv W hb => cell_then hb ((blk_cell bx j).trans hv)
  have R := Lib.hid (And.intro hy hf)
  have Hw := Lib.hid hw
  have H1 := Lib.hid n1
  have H2 := Lib.hid n2
  have H4 := Lib.hid n4
  have H5 := Lib.hid n5
  have s1 := b1.size
  have kd := cell 5 _ rfl
  have ks := cell 4 _ rfl
  have kt := cell 6 _ rfl
  have ki := cell 7 _ rfl
  have km := cell 2 _ rfl
  have x0 : W1.cell? ⟨w.heap.size, 0, none⟩ = some (.string lo) := cell 0 _ rfl _ (Below.refl _ _)
  have x1 : W1.cell? ⟨w.heap.size, 1, none⟩ = some (.string dom) := cell 1 _ rfl _ (Below.refl _ _)
  clear hy hf hw n1 n2 n4 n5 cell bx
  have bq : ∀ {W w' : World}, Below W1.heap.size W1 W → Drawn0 W w' → Below W1.heap.size W1 w' := fun h hd => h.trans (hd.below.mono h.size)
  go_enter Tryz.func102, Tryz.ntmps102
  go_wp2_with (fail)
  rw [← hW1]
  clear hW1
  have HBX : Below W1.heap.size W1 W1 := Below.refl _ _
  cases nd with
  | true =>
    go_wp2_with (first
      | (go_at_call 144; (with_reducible refine (right_ok k lo dom R.out.1 R.out.2).mono ?_); rintro e w2 ⟨rfl, hb⟩; replace HBX := HBX.trans (hb.mono HBX.size); have q2 := km _ HBX; have q3 := ks _ HBX; have q4 := kd _ HBX; have q5 := kt _ HBX; have q6 := ki _ HBX)
      | (go_at_call 118; (with_reducible refine (roster_Word.calls md wd _ Hw.out).mono ?_); rintro e w2 ⟨rfl, hd⟩; replace HBX := bq HBX hd; have q2 := km _ HBX; have q3 := ks _ HBX; have q4 := kd _ HBX; have q5 := kt _ HBX; have q6 := ki _ HBX)
      | (go_at_call 145; (with_reducible refine (roster_number.calls sc true _ H1.out).mono ?_); rintro e w2 ⟨rfl, hd⟩; replace HBX := bq HBX hd; have q2 := km _ HBX; have q3 := ks _ HBX; have q4 := kd _ HBX; have q5 := kt _ HBX; have q6 := ki _ HBX)
      | (go_at_call 145; (with_reducible refine (roster_number.calls dy true _ H2.out).mono ?_); rintro e w2 ⟨rfl, hd⟩; replace HBX := bq HBX hd; have q2 := km _ HBX; have q3 := ks _ HBX; have q4 := kd _ HBX; have q5 := kt _ HBX; have q6 := ki _ HBX)
      | (go_at_call 145; (with_reducible refine (roster_number.calls ti true _ H4.out).mono ?_); rintro e w2 ⟨rfl, hd⟩; replace HBX := bq HBX hd; have q2 := km _ HBX; have q3 := ks _ HBX; have q4 := kd _ HBX; have q5 := kt _ HBX; have q6 := ki _ HBX)
      | (go_at_call 145; (with_reducible refine (roster_number.calls si true _ H5.out).mono ?_); rintro e w2 ⟨rfl, hd⟩; replace HBX := bq HBX hd; have q2 := km _ HBX; have q3 := ks _ HBX; have q4 := kd _ HBX; have q5 := kt _ HBX; have q6 := ki _ HBX))
    go_ret
    exact ⟨rfl, b1.trans (HBX.mono s1)⟩
  | false =>
    have hdy : dy = -1 := by
      rcases n3 with h | h
      · cases h
      · exact h
    subst hdy
    go_wp2_with (first
      | (go_at_call 144; (with_reducible refine (right_ok k lo dom R.out.1 R.out.2).mono ?_); rintro e w2 ⟨rfl, hb⟩; replace HBX := HBX.trans (hb.mono HBX.size); have q2 := km _ HBX; have q3 := ks _ HBX; have q4 := kd _ HBX; have q5 := kt _ HBX; have q6 := ki _ HBX)
      | (go_at_call 118; (with_reducible refine (roster_Word.calls md wd _ Hw.out).mono ?_); rintro e w2 ⟨rfl, hd⟩; replace HBX := bq HBX hd; have q2 := km _ HBX; have q3 := ks _ HBX; have q4 := kd _ HBX; have q5 := kt _ HBX; have q6 := ki _ HBX)
      | (go_at_call 145; (with_reducible refine (roster_number.calls sc true _ H1.out).mono ?_); rintro e w2 ⟨rfl, hd⟩; replace HBX := bq HBX hd; have q2 := km _ HBX; have q3 := ks _ HBX; have q4 := kd _ HBX; have q5 := kt _ HBX; have q6 := ki _ HBX)
      | (go_at_call 145; (with_reducible refine (roster_number.calls (-1) false _ H2.out).mono ?_); rintro e w2 ⟨rfl, hd⟩; replace HBX := bq HBX hd; have q2 := km _ HBX; have q3 := ks _ HBX; have q4 := kd _ HBX; have q5 := kt _ HBX; have q6 := ki _ HBX)
      | (go_at_call 145; (with_reducible refine (roster_number.calls ti true _ H4.out).mono ?_); rintro e w2 ⟨rfl, hd⟩; replace HBX := bq HBX hd; have q2 := km _ HBX; have q3 := ks _ HBX; have q4 := kd _ HBX; have q5 := kt _ HBX; have q6 := ki _ HBX)
      | (go_at_call 145; (with_reducible refine (roster_number.calls si true _ H5.out).mono ?_); rintro e w2 ⟨rfl, hd⟩; replace HBX := bq HBX hd; have q2 := km _ HBX; have q3 := ks _ HBX; have q4 := kd _ HBX; have q5 := kt _ HBX; have q6 := ki _ HBX))
    go_ret
    exact ⟨rfl, b1.trans (HBX.mono s1)⟩
end
end Go.Proofs.YtpniccllpfonfaaGreatDoor.St
namespace Go.Proofs.YtpniccllpfonfaaGreatDoor.St
open Go Go.RowKit Go.Sort Go.Proofs.YtpniccllpfonfaaGreatDoorW.PrintWords Go.Proofs.YtpniccllpfonfaaGreatDoor.Wd Go.Proofs.YtpniccllpfonfaaGreatDoor.Q
/-- What a member's texts are. -/
structure Keeps (k : Nat) (list : ByteArray) (m : Mb) (ml ky t wd : ByteArray) : Prop where
  pre : store_members.f list = some ml
  key : addr_Addr_Key.f k m.loc m.dom = some ky
  text : addr_Addr_Text.f k m.loc m.dom = some t
  word : roster_Word.f m.mode = some wd
  yes : roster_yes.f m.off = some (yesB m.off)
  i1 : I64 m.score
  i2 : I64 m.day
  i3 : I64 m.ticket
  i4 : I64 m.since
  small : ∀ s ∈ rowM m t wd, s.size ≤ 90000000
  short : ml.size + ky.size ≤ 9223372036854775807
section
variable {w0 w w' : World} {gt gs gw gd gb N Z h p q : Nat} {vl vr vb : Value} {l : List Pr} {cs : List Ch} {e : Int}
set_option maxRecDepth 100000 in
set_option maxHeartbeats 8000000 in
theorem tkeepm_any (hA : Amb w0) (X : TxI w0 w gt gs gw gd gb N Z vl vr vb h p q l cs e) (he : e = 0) {k : Nat} {list : ByteArray} {m : Mb} {ml ky t wd : ByteArray} (H : Keeps k list m ml ky t wd) :
    Calls Tryz.prog 38 #[.pointer (some ⟨gt, 0, none⟩), .string list, .agg #[.string m.loc, .string m.dom, .int .i64 m.mode, .bool m.off, .int .i64 m.score, .int .i64 m.day, .int .i64 m.ticket, .int .i64 m.since]] w fun en w' => ∃ vb', en = .returned (.tuple #[]) ∧ TxI w0 w' gt gs gw gd gb N Z vl vr vb' h p q l (chg cs ⟨ml ++ ky, ⟨(rowL (rowM m t wd)).toArray⟩, false⟩).2 (chg cs ⟨ml ++ ky, ⟨(rowL (rowM m t wd)).toArray⟩, false⟩).1 ∧ Turn w w' (TxS gt gb vb) ∧ Grow w vb vb' := by
  obtain ⟨W1, hW1⟩ : ∃ W1, W1 = w.alloc (.cells #[.string m.loc, .string m.dom, .int .i64 m.mode, .bool m.off, .int .i64 m.score, .int .i64 m.day, .int .i64 m.ticket, .int .i64 m.since] 47 (0, 0)) := ⟨_, rfl⟩
  have b1 : Below w.heap.size w W1 := by rw [hW1]; exact below_alloc (Below.refl _ _) _
  have bx : W1.heap[w.heap.size]? = some (.cells #[.string m.loc, .string m.dom, .int .i64 m.mode, .bool m.off, .int .i64 m.score, .int .i64 m.day, .int .i64 m.ticket, .int .i64 m.since] 47 (0, 0)) := by rw [hW1]; exact heap_alloc_new w _
  have k0 := cell_regrown (show W1.cell? ⟨w.heap.size, 0, none⟩ = some (.string m.loc) from blk_cell bx 0)
  have k1 := cell_regrown (show W1.cell? ⟨w.heap.size, 1, none⟩ = some (.string m.dom) from blk_cell bx 1)
  have k2 := cell_regrown (show W1.cell? ⟨w.heap.size, 2, none⟩ = some (.int .i64 m.mode) from blk_cell bx 2)
  have k3 := cell_regrown (show W1.cell? ⟨w.heap.size, 3, none⟩ = some (.bool m.off) from blk_cell bx 3)
  have k4 := cell_regrown (show W1.cell? ⟨w.heap.size, 4, none⟩ = some (.int .i64 m.score) from blk_cell bx 4)
  have k5 := cell_regrown (show W1.cell? ⟨w.heap.size, 5, none⟩ = some (.int .i64 m.day) from blk_cell bx 5)
  have k6 := cell_regrown (show W1.cell? ⟨w.heap.size, 6, none⟩ = some (.int .i64 m.ticket) from blk_cell bx 6)
  have k7 := cell_regrown (show W1.cell? ⟨w.heap.size, 7, none⟩ = some (.int .i64 m.since) from blk_cell bx 7)
  have hA1 : ∀ d os, Amb (grow (redrawn W1 d) os) := fun d os => (hA.at (X.ofBelow b1).low).at (below_regrown W1 d os)
  have cM := fun d os => Calls.regrown_of (d := d) (os := os) (calls_below (store_members.calls list ml (grow (redrawn W1 d) os) H.pre))
  have cK := fun d os => Calls.regrown_of (d := d) (os := os) (addr_Addr_Key.calls k m.loc m.dom ky (grow (redrawn W1 d) os) H.key)
  have cR := fun d os => Calls.regrown_of (d := d) (os := os) (row_m (hA1 d os) m k t wd H.text H.word H.yes H.i1 H.i2 H.i3 H.i4 H.small)
  have hq1 : ¬ 9223372036854775807 < ml.size + ky.size := by have := H.short; omega
  have XX := Lib.hid (X.ofBelow b1)
  have Hh := Lib.hid H
  clear hA1 bx H
  have mixed : Tryz.prog.follows Departure.mixedOrders = true := by kernel_rfl
  go_enter Tryz.func38, Tryz.ntmps38
  go_wp2_with (fail)
  rw [← hW1]
  clear hW1
  refine Qt.wp_region_quiet_tail (C := fun w' => ∃ p : Regrown, w' = grow (redrawn W1 p.d) p.os) 9 mixed (by kernel_rfl) (by kernel_rfl) (by kernel_rfl) ⟨⟨W1.drawn + 1, #[]⟩, by rw [grow_empty]; rfl⟩ ?_
  simp only [List.take_succ_cons, List.take_zero]
  repeat (quiet_step (first | exact cM _ _ | exact cK _ _ | exact cR _ _))
  refine wpQuiet_nil ?_
  intro w' hw'
  obtain ⟨⟨dq, osq⟩, hw''⟩ := hw'
  subst hw''
  simp only [List.drop_succ_cons, List.drop_zero]
  have b2 := below_regrown W1 dq osq
  obtain ⟨W2, hW2⟩ : ∃ W2, W2 = grow (redrawn W1 dq) osq := ⟨_, rfl⟩
  rw [← hW2] at b2 ⊢
  clear hW2 k0 k1 k2 k3 k4 k5 k6 k7 cM cK cR
  have s1 := b1.size
  have b12 : Below w.heap.size w W2 := b1.trans (b2.mono s1)
  go_wp2_with (go_at_call 44; (with_reducible refine (tput_any (XX.out.ofBelow b2) he (ml ++ ky) _).mono ?_); rintro en w3 ⟨vb3, rfl, X3, t3, g3⟩)
  refine Go.Great.bodyPost_end0 rfl rfl ?_
  have s2 := b2.size
  refine ⟨vb3, rfl, X3, turn_from t3 b12, fun k hk => ?_⟩
  rcases g3 k hk with h9 | h9
  · exact .inl h9
  · exact .inr (by omega)
end
end Go.Proofs.YtpniccllpfonfaaGreatDoor.St
