-- Texts of this session put together by a program of it (wip/pack.py).
import Derived.Test.YtpniccllpfonfaaGreatDoorKQ0
import Derived.Test.YtpniccllpfonfaaGreatDoorKQ6
import Derived.Test.YtpniccllpfonfaaGreatDoorKQ7
import Derived.Test.YtpniccllpfonfaaGreatDoorKQ8
import Derived.Test.YtpniccllpfonfaaGreatDoorKQ11
import Derived.Test.YtpniccllpfonfaaGreatDoorKQ12
namespace Go.Proofs.YtpniccllpfonfaaGreatDoor.Q
open Go.RowKit Go.Proofs.YtpniccllpfonfaaGreatDoorW.PrintWords Go.Proofs.YtpniccllpfonfaaGreatDoorW.PrintLast Go.Proofs.YtpniccllpfonfaaGreatDoorW.PrintMore Go.Proofs.YtpniccllpfonfaaGreatDoorW.PrintSq
attribute [local go_sem] max2_int min2_int max_two min_two max_three min_three max_four min_four   -- for this text's walks alone
set_option linter.unusedVariables false
set_option linter.unusedSimpArgs false
/-! ### addr_domain: function 219 -/
/-- Why parts are no domain: the first that is no label; else whether they are too long. -/
def addr_domain.g (f : ByteArray → Option Bool) : Bool → List ByteArray → Option Int
  | lg, [] => some (if lg = true then 2 else 0)
  | lg, x :: xs => (f x).bind fun b => if b = true then addr_domain.g f (lg || decide (63 < x.size)) xs else some 130
theorem addr_domain.g_mono (f g : ByteArray → Option Bool) (h : ∀ x, LeO (f x) (g x)) : ∀ l lg, LeO (addr_domain.g f lg l) (addr_domain.g g lg l)
  | [], _ => LeO.refl _
  | x :: l, lg => LeO.bind (h x) (fun b => by split <;> first | exact addr_domain.g_mono f g h l _ | exact LeO.refl _)
section
open Go Go.Shelf Go.Proofs.YtpniccllpfonfaaGreatDoorW.SeqC Sp
attribute [local go_sem] Oper.semAt_some
set_option maxHeartbeats 4000000 in
theorem addr_domain.walk (fA : ByteArray → Option Bool) (hA : ∀ x r w, fA x = some r → Calls Tryz.prog 234 #[.string x] w fun e w' => e = .returned (.bool r) ∧ Drawn0 w w')
    (a0 : ByteArray) (r : Int) (w : World) (hsz : a0.size ≤ 140737488355327) (h : addr_domain.g fA (decide (253 < a0.size)) (Sp.parts 46 a0) = some r) :
    Calls Tryz.prog 219 #[.string a0] w fun e w' => e = .returned (.int .i64 r) ∧ Below w.heap.size w w' := by
  refine (callsIn_wide (n := 3)).1 ?_
  refine callsIn_of_wp_marks Tryz.func219 rfl trivial ?_ rfl
  simp only [Tryz.ntmps219, List.size_toArray, List.length_cons, List.length_nil, Nat.reduceAdd, Nat.reduceSub, Array.replicate_succ, Array.replicate_zero, List.push_toArray, List.append_toArray, List.nil_append, List.cons_append]
  obtain ⟨lg0, hl0⟩ : ∃ b : Bool, decide (253 < (a0.size : Int)) = b := ⟨_, rfl⟩
  have hl1 : decide (253 < a0.size) = lg0 := by rw [← hl0]; apply decide_eq_decide.2; omega
  rw [hl1] at h
  gi_wp2_with (refine ⟨trivial, (callsIn_wide.2 (splitSeq_in 3 a0 ⟨#[46]⟩ _)).mono ?_⟩; rintro e w' ⟨rfl, rfl⟩)
  have c0 := World.alloc_heap_new w (.cells #[.int .i64 0] 28)
  have c1 := World.alloc_heap_new (w.alloc (.cells #[.int .i64 0] 28)) (.cells #[.bool lg0] 4)
  obtain ⟨t0, t1, t2⟩ := three ((w.alloc (.cells #[.int .i64 0] 28)).alloc (.cells #[.bool lg0] 4)) (.cells #[.string a0] 9) (.cells #[.string ⟨#[46]⟩] 9) (.cells #[.int .i64 0] 3)
  simp only [World.size_alloc] at c1 t0 t1 t2
  have hB0 : Below w.heap.size w (((((w.alloc (.cells #[.int .i64 0] 28)).alloc (.cells #[.bool lg0] 4)).alloc (.cells #[.string a0] 9)).alloc (.cells #[.string ⟨#[46]⟩] 9)).alloc (.cells #[.int .i64 0] 3)) :=
    (((((Below.refl _ w).alloc (Nat.le_refl _) _).alloc (by simp) _).alloc (by simp <;> omega) _).alloc (by simp <;> omega) _).alloc (by simp <;> omega) _
  refine wpIn_range_cell rfl (by decide) (gf := 229) (lb := #[.pointer (some ⟨w.heap.size + 1 + 1 + 1, 0, none⟩), .pointer (some ⟨w.heap.size + 1 + 1, 0, none⟩), .pointer (some ⟨w.heap.size + 1 + 1 + 2, 0, none⟩)]) rfl trivial (enters_of Tryz.func229 (by kernel_rfl) rfl)
    (splitIt 2 a0 hsz 46 (w.heap.size + 1 + 1) _ (by simp) t0 t1 t2) (by simp) ((blk_cell t0 0).trans rfl) kp3_t (kp3_b (by simp)) (fun _ => rfl)
    (fun pre W => ∃ lg, (∀ ys, pre ++ ys = Sp.parts 46 a0 → addr_domain.g fA lg ys = some r) ∧ W.heap[w.heap.size]? = some (.cells #[.int .i64 0] 28 (0, 0)) ∧ W.heap[w.heap.size + 1]? = some (.cells #[.bool lg] 4 (0, 0)) ∧ Below w.heap.size w W)
    (fun c pre W => c = .ret ∧ r = 130 ∧ W.heap[w.heap.size]? = some (.cells #[.int .i64 130] 28 (0, 0)) ∧ Below w.heap.size w W)
    (fun s A B row hs hg hr => by
      obtain ⟨lg, h1, h2, h3, h4⟩ := hs
      exact ⟨lg, h1, blk_own h2 hg hr, blk_own h3 hg hr, ownFrom_below (Nat.le_refl _) (by simp <;> omega) s A B row h4 hg hr⟩)
    (fun c s A B row hs hg hr => ⟨hs.1, hs.2.1, blk_own hs.2.2.1 hg hr, ownFrom_below (Nat.le_refl _) (by simp <;> omega) s A B row hs.2.2.2 hg hr⟩)
    (fun s W v hs => by
      obtain ⟨lg, h1, h2, h3, h4⟩ := hs
      exact ⟨lg, h1, (Below.heap_setCell W _ v _ (by simp <;> omega)).trans h2, (Below.heap_setCell W _ v _ (by simp)).trans h3, h4.setCell (by simp <;> omega) _⟩)
    ⟨lg0, fun ys hys => by rw [show ys = Sp.parts 46 a0 from hys]; exact h, (Below.heap_alloc _ _ _ (by simp <;> omega)).trans ((Below.heap_alloc _ _ _ (by simp <;> omega)).trans ((Below.heap_alloc _ _ _ (by simp <;> omega)).trans ((Below.heap_alloc _ _ _ (by simp)).trans c0))),
      (Below.heap_alloc _ _ _ (by simp <;> omega)).trans ((Below.heap_alloc _ _ _ (by simp <;> omega)).trans ((Below.heap_alloc _ _ _ (by simp)).trans c1)), hB0⟩
    (fun x => { tmps := #[.string a0, undef, .pointer (some ⟨w.heap.size, 0, none⟩), .pointer (some ⟨w.heap.size + 1, 0, none⟩), .string x, .string a0, .int .i64 a0.size, .bool lg0, .string a0, .func (.func 229) #[] #[.pointer (some ⟨w.heap.size + 1 + 1 + 1, 0, none⟩), .pointer (some ⟨w.heap.size + 1 + 1, 0, none⟩), .pointer (some ⟨w.heap.size + 1 + 1 + 2, 0, none⟩)], .string x, undef, undef, undef, undef, undef, undef, undef, undef, undef, undef], defers := [] }) ?assign ?body ?done ?stop
  case assign =>
    intro l x W K hK
    gi_wp2
    exact hK
  case body =>
    rintro l pre x W ⟨lg, hp, hcr, hcl, hB⟩ ⟨ys, hys⟩
    have hx := hp (x :: ys) (by rw [← hys]; simp)
    unfold addr_domain.g at hx
    obtain ⟨bx, hbx, hx⟩ := Option.bind_eq_some_iff.mp hx
    have hcc : W.cell? ⟨w.heap.size, 0, none⟩ = some (.int .i64 0) := (blk_cell hcr 0).trans rfl
    have hff : W.frozen? ⟨w.heap.size, 0, none⟩ = false := blk_frozen hcr 0
    have hc1 : W.cell? ⟨w.heap.size + 1, 0, none⟩ = some (.bool lg) := (blk_cell hcl 0).trans rfl
    have hf1 : W.frozen? ⟨w.heap.size + 1, 0, none⟩ = false := blk_frozen hcl 0
    cases bx with
    | false =>
      obtain rfl : (130 : Int) = r := by simpa using hx
      gi_wp2_with (refine ⟨trivial, (CallsIn.inRound l (callsIn_wide.2 (hA x false _ hbx))).mono ?_⟩; rintro e w' ⟨rfl, ⟨nd, rfl⟩⟩)
      exact ⟨(ko_drewN W nd).trans (KeepsOthers.setCell _ _ _), rfl, one_setCell (w := W.drewN nd) (u := .int .i64 130) hcr, Below.setCell (pw_below_drewN hB nd) (p := ⟨w.heap.size, 0, none⟩) (by simp) _⟩
    | true =>
      rw [if_pos rfl] at hx
      have hI : ∀ (nd : Nat) (b2 : Bool), (lg || decide (63 < x.size)) = b2 → ownPostK (Kp3 (w.heap.size + 1 + 1)) (fun pre W => ∃ lg, (∀ ys, pre ++ ys = Sp.parts 46 a0 → addr_domain.g fA lg ys = some r) ∧ W.heap[w.heap.size]? = some (.cells #[.int .i64 0] 28 (0, 0)) ∧ W.heap[w.heap.size + 1]? = some (.cells #[.bool lg] 4 (0, 0)) ∧ Below w.heap.size w W)
          (fun c pre W => c = .ret ∧ r = 130 ∧ W.heap[w.heap.size]? = some (.cells #[.int .i64 130] 28 (0, 0)) ∧ Below w.heap.size w W) (pre ++ [x]) W .normal { tmps := #[], defers := [] } ((W.drewN nd).setCell ⟨w.heap.size + 1, 0, none⟩ (.bool b2)) := by
        intro nd b2 hb2
        refine ⟨(ko_drewN W nd).trans (KeepsOthers.setCell _ _ _), fun k h1 h2 => Below.heap_setCell _ _ _ _ (by simp <;> omega), b2, fun ys2 h2 => ?_, (Below.heap_setCell _ _ _ _ (by simp)).trans hcr, one_setCell (w := W.drewN nd) (u := .bool b2) hcl, Below.setCell (pw_below_drewN hB nd) (p := ⟨w.heap.size + 1, 0, none⟩) (by simp) _⟩
        have e : ys2 = ys := by rw [← hys] at h2; exact List.append_cancel_left h2
        rw [e, ← hb2]; exact hx
      cases lg with
      | true =>
        gi_wp2_with (refine ⟨trivial, (CallsIn.inRound l (callsIn_wide.2 (hA x true _ hbx))).mono ?_⟩; rintro e w' ⟨rfl, ⟨nd, rfl⟩⟩)
        exact hI nd true rfl
      | false =>
        obtain ⟨b2, hb2⟩ : ∃ b2 : Bool, decide (63 < (x.size : Int)) = b2 := ⟨_, rfl⟩
        have hb3 : (false || decide (63 < x.size)) = b2 := by rw [← hb2, Bool.false_or]; apply decide_eq_decide.2; omega
        gi_wp2_with (refine ⟨trivial, (CallsIn.inRound l (callsIn_wide.2 (hA x true _ hbx))).mono ?_⟩; rintro e w' ⟨rfl, ⟨nd, rfl⟩⟩)
        exact hI nd b2 hb3
  case done =>
    rintro D ys W hD rfl ⟨lg, hp, hcr, hcl, hB⟩ hK
    have hr := hp [] (by simp)
    have hcc : W.cell? ⟨w.heap.size, 0, none⟩ = some (.int .i64 0) := (blk_cell hcr 0).trans rfl
    have hff : W.frozen? ⟨w.heap.size, 0, none⟩ = false := blk_frozen hcr 0
    have hc1 : W.cell? ⟨w.heap.size + 1, 0, none⟩ = some (.bool lg) := (blk_cell hcl 0).trans rfl
    cases lg with
    | true =>
      obtain rfl : (2 : Int) = r := by simpa [addr_domain.g] using hr
      gi_wp2
      have hK' := (KeepsOthers.setCell W ⟨w.heap.size, 0, none⟩ (.int .i64 2)).same D _ hK rfl
      refine ⟨by simp, .inl ⟨_, _, rfl, run_takeDeferred hK', ?_⟩⟩
      have hc5 := cell_kept ((blk_cell (one_setCell (u := .int .i64 2) hcr) 0).trans rfl) (grownBy_putObj' _ D (.deferred none)) (fun r e => by cases e; exact ⟨_, hK', rfl⟩)
      refine ⟨.int .i64 2, ?_, rfl, (hB.setCell (p := ⟨w.heap.size, 0, none⟩) (by simp) _).trans (belowK_b (w := w) (Nat.le_refl _) _ D _ _ (by simp at hD; omega) hK' rfl rfl)⟩
      simp [results, Tryz.f219, go_sem, hc5]
    | false =>
      obtain rfl : (0 : Int) = r := by simpa [addr_domain.g] using hr
      gi_wp2
      have hK' := (KeepsOthers.setCell W ⟨w.heap.size, 0, none⟩ (.int .i64 0)).same D _ hK rfl
      refine ⟨by simp, .inl ⟨_, _, rfl, run_takeDeferred hK', ?_⟩⟩
      have hc5 := cell_kept ((blk_cell (one_setCell (u := .int .i64 0) hcr) 0).trans rfl) (grownBy_putObj' _ D (.deferred none)) (fun r e => by cases e; exact ⟨_, hK', rfl⟩)
      refine ⟨.int .i64 0, ?_, rfl, (hB.setCell (p := ⟨w.heap.size, 0, none⟩) (by simp) _).trans (belowK_b (w := w) (Nat.le_refl _) _ D _ _ (by simp at hD; omega) hK' rfl rfl)⟩
      simp [results, Tryz.f219, go_sem, hc5]
  case stop =>
    rintro D c pre W hD hpre ⟨rfl, rfl, hcr, hB⟩ hK
    gi_wp2
    refine ⟨by simp, .inl ⟨_, _, rfl, run_takeDeferred hK, ?_⟩⟩
    have hc5 := cell_kept ((blk_cell hcr 0).trans rfl) (grownBy_putObj' _ D (.deferred none)) (fun r e => by cases e; exact ⟨_, hK, rfl⟩)
    refine ⟨.int .i64 130, ?_, rfl, hB.trans (belowK_b (w := w) (Nat.le_refl _) W D _ _ (by simp at hD; omega) hK rfl rfl)⟩
    simp [results, Tryz.f219, go_sem, hc5]
end
def addr_domain.f (k : Nat) (a0 : ByteArray) : Option (Int) := if a0.size ≤ 140737488355327 then (addr_domain.g (addr_label.f k) (decide (253 < a0.size)) (Sp.parts 46 a0)) else none
theorem addr_domain.mono : ∀ a0 k, LeO (addr_domain.f k a0) (addr_domain.f (k + 1) a0) := by
  intro a0 k
  unfold addr_domain.f
  exact LeO.ite (addr_domain.g_mono _ _ (fun x => addr_label.mono x k) _ _) (LeO.none _)
theorem addr_domain.calls (k : Nat) (a0 : ByteArray) (r : Int) (w : World) (h : addr_domain.f k a0 = some r) :
    Calls Tryz.prog 219 #[.string a0] w fun e w' => e = .returned (.int .i64 r) ∧ Below w.heap.size w w' := by
 unfold addr_domain.f at h
 by_cases h0 : a0.size ≤ 140737488355327
 ·rw [if_pos h0] at h
  exact addr_domain.walk (addr_label.f k) (fun x r w hx => addr_label.calls k x r w hx) a0 r w h0 h
 ·rw [if_neg h0] at h; cases h
/-! ### glyph_plain: function 235 -/
def glyph_plain.f (a0 : Int) : Option (Bool) := if a0 ≥ 32 then (some (decide (a0 ≤ 126))) else (some false)
set_option maxHeartbeats 8000000 in
set_option maxRecDepth 100000 in
theorem glyph_plain.calls (a0 : Int) (r : Bool) (w : World) (h : glyph_plain.f a0 = some r) :
    Calls Tryz.prog 235 #[.int .i32 a0] w fun e w' => e = .returned (.bool r) ∧ Drawn0 w w' := by
 unfold glyph_plain.f at h
 have H := h
 clear h
 by_cases c2 : a0 ≥ 32
 ·rw [if_pos c2] at H
  have c2b0 : decide (32 ≤ a0) = true := decide_eq_true c2
  clear c2
  obtain rfl := Option.some.inj H
  go_enter Tryz.func235, Tryz.ntmps235
  go_wp2
  go_ret
  exact ⟨eqs, drw⟩
 ·rw [if_neg c2] at H
  have c2b0 : decide (32 ≤ a0) = false := decide_eq_false c2
  clear c2
  obtain rfl := Option.some.inj H
  go_enter Tryz.func235, Tryz.ntmps235
  go_wp2
  go_ret
  exact ⟨eqs, drw⟩
/-! ### glyph_Plain: function 220 -/
/-- Are all of a text's bytes plain? -/
def glyph_Plain.g (s : ByteArray) : Bool := s.data.toList.all fun c => decide (32 ≤ c.toNat) && decide (c.toNat ≤ 126)
def glyph_Plain.f (a0 : ByteArray) : Option (Bool) := if a0.size ≤ 140737488355327 then (some (glyph_Plain.g a0)) else none
theorem glyph_Plain.no (s : ByteArray) (i : Nat) (hi : i < s.size) (h : ¬ (32 ≤ (s[i]'hi).toNat ∧ (s[i]'hi).toNat ≤ 126)) : glyph_Plain.g s = false := by
  unfold glyph_Plain.g
  rw [List.all_eq_false]
  refine ⟨s[i]'hi, ?_, ?_⟩
  · exact List.getElem_mem (l := s.data.toList) (by simpa using hi)
  · simp only [Bool.and_eq_true, decide_eq_true_eq]
    exact h
theorem glyph_Plain.yes (s : ByteArray) (h : ∀ (i : Nat) (hi : i < s.size), 32 ≤ (s[i]'hi).toNat ∧ (s[i]'hi).toNat ≤ 126) : glyph_Plain.g s = true := by
  unfold glyph_Plain.g
  rw [List.all_eq_true]
  intro c hc
  obtain ⟨i, hi, rfl⟩ := List.mem_iff_getElem.1 hc
  have := h i (by simpa using hi)
  simp only [Bool.and_eq_true, decide_eq_true_eq]
  exact this
set_option maxHeartbeats 4000000 in
theorem glyph_Plain.walk (hA : ∀ (r : Int) (b : Bool) w, glyph_plain.f r = some b → Calls Tryz.prog 235 #[.int .i32 r] w fun e w' => e = .returned (.bool b) ∧ Drawn0 w w')
    (s : ByteArray) (w : World) (hs : s.size ≤ 140737488355327) : Calls Tryz.prog 220 #[.string s] w fun e w' => e = .returned (.bool (glyph_Plain.g s)) ∧ Below w.heap.size w w' := by
  go_enter Tryz.func220, Tryz.ntmps220
  go_wp2
  go_loopw [4] (fun _ wr => ∃ pos, pos ≤ s.size ∧ wr.heap[w.heap.size]? = some (.stringIter s pos) ∧ Below w.heap.size w wr ∧ (∀ (i : Nat) (hi : i < s.size), i < pos → 32 ≤ (s[i]'hi).toNat ∧ (s[i]'hi).toNat ≤ 126)) (fun _ wr => s.size - wr.iterPos w.heap.size)
  case atStart => exact ⟨0, Nat.zero_le _, World.alloc_heap_new w _, below_alloc (Below.refl _ _) _, fun i hi h => absurd h (Nat.not_lt_zero _)⟩
  case round =>
    obtain ⟨pos, hle, hit, hB, hall⟩ := hrel
    by_cases hp : pos < s.size
    · by_cases ha : (s[pos]'hp).toNat < 128
      · have hnx := fun ty => Lib.run_next_ascii_at (P := Tryz.prog) wr w.heap.size s pos ty hit hp ha
        by_cases hpl : 32 ≤ (s[pos]'hp).toNat ∧ (s[pos]'hp).toNat ≤ 126
        · have hb : glyph_plain.f ((s[pos]'hp).toNat : Int) = some true := by unfold glyph_plain.f; rw [if_pos (by omega)]; simp; omega
          go_wp2_with (go_at_call 235; refine (hA _ true _ hb).mono ?_; rintro e w' ⟨rfl, nd, rfl⟩)
          have h2 := Lib.iterAt_heap wr w.heap.size s pos (pos + 1) hit
          refine ⟨⟨pos + 1, hp, h2, pw_below_drewN (Lib.below_iterAt hB (Nat.le_refl _) s (pos + 1)) nd, fun i hi hi2 => ?_⟩, ?_⟩
          · by_cases e : i = pos
            · subst e; exact hpl
            · exact hall i hi (by omega)
          · have e1 : ((wr.iterAt w.heap.size s (pos + 1)).drewN nd).iterPos w.heap.size = pos + 1 := by
              show (match (wr.iterAt w.heap.size s (pos + 1)).heap[w.heap.size]? with | some (.stringIter _ p) => p | _ => 0) = pos + 1
              rw [h2]
            have e2 : wr.iterPos w.heap.size = pos := by unfold World.iterPos; rw [hit]
            rw [e1, e2]; omega
        · have hb : glyph_plain.f ((s[pos]'hp).toNat : Int) = some false := by
            unfold glyph_plain.f
            split
            · simp; omega
            · rfl
          have hg := glyph_Plain.no s pos hp hpl
          go_wp2_with (go_at_call 235; refine (hA _ false _ hb).mono ?_; rintro e w' ⟨rfl, nd, rfl⟩)
          go_ret
          exact ⟨congrArg (fun b => Ending.returned (.bool b)) hg.symm, pw_below_drewN (Lib.below_iterAt hB (Nat.le_refl _) s (pos + 1)) nd⟩
      · have hnx := fun ty => Lib.run_next_any_at (P := Tryz.prog) wr w.heap.size s pos ty hit hp
        have hd := (decode_high s pos hp (by omega)).1
        have hb : glyph_plain.f ((Utf8.decode s pos).1 : Int) = some false := by unfold glyph_plain.f; rw [if_pos (by omega)]; simp; omega
        have hg := glyph_Plain.no s pos hp (by omega)
        go_wp2_with (go_at_call 235; refine (hA _ false _ hb).mono ?_; rintro e w' ⟨rfl, nd, rfl⟩)
        go_ret
        exact ⟨congrArg (fun b => Ending.returned (.bool b)) hg.symm, pw_below_drewN (Lib.below_iterAt hB (Nat.le_refl _) s _) nd⟩
    · have hnx := fun ty => Lib.run_next_end_at (P := Tryz.prog) wr w.heap.size s pos ty hit hp
      have hg := glyph_Plain.yes s (fun i hi => hall i hi (by omega))
      go_wp2
      go_ret
      exact ⟨congrArg (fun b => Ending.returned (.bool b)) hg.symm, hB⟩
theorem glyph_Plain.calls (a0 : ByteArray) (r : Bool) (w : World) (h : glyph_Plain.f a0 = some r) :
    Calls Tryz.prog 220 #[.string a0] w fun e w' => e = .returned (.bool r) ∧ Below w.heap.size w w' := by
 unfold glyph_Plain.f at h
 by_cases h0 : a0.size ≤ 140737488355327
 ·rw [if_pos h0] at h
  obtain rfl := Option.some.inj h
  exact glyph_Plain.walk (fun r b w hb => glyph_plain.calls r b w hb) a0 w h0
 ·rw [if_neg h0] at h
  cases h
/-! ### addr_why: function 186 -/
def addr_why.j0 : Nat → Int → Bool → ByteArray → ByteArray → Option (Int)
  | 0, _, _, _, _ => none
  | k + 1, x3, x19, x307000, x307001 => if x19 = true then (some 130) else (if x3 = 0 then (if (x307000.size : Int) > 64 then (some 2) else ((addr_Addr_Text.f k x307000 x307001).bind fun t309 => (if (t309.size : Int) > 254 then (some 2) else (some 0)))) else (some 2))
def addr_why.f (k : Nat) (a0_0 : ByteArray) (a0_1 : ByteArray) : Option (Int) := (addr_domain.f k a0_1).bind fun t307 => (if t307 = 130 then (addr_why.j0 k t307 true a0_0 a0_1) else (if a0_0.toList = ([] : List UInt8) then (addr_why.j0 k t307 true a0_0 a0_1) else ((glyph_Plain.f a0_0).bind fun t308 => (addr_why.j0 k t307 (!t308) a0_0 a0_1))))
theorem addr_why.mono_l : ∀ k, (∀ y0 y1 y2 y3, LeO (addr_why.j0 k y0 y1 y2 y3) (addr_why.j0 (k + 1) y0 y1 y2 y3))
  | 0 => fun _ _ _ _ r h => by simp [addr_why.j0] at h
  | k + 1 => by
    have ih0 := addr_why.mono_l k
    · intro y0 y1 y2 y3
      unfold addr_why.j0
      repeat' first | (with_reducible first | exact ih0 _ _ _ _ | exact addr_Addr_Text.mono _ _ _ | exact addr_domain.mono _ _ | exact LeO.refl _ | exact LeO.none _ | refine LeO.ite ?_ ?_ | refine LeO.bind ?_ (fun _ => ?_)) | exact ih0 _ _ _ _ | exact addr_Addr_Text.mono _ _ _ | exact addr_domain.mono _ _ | exact LeO.none _ | refine LeO.ite ?_ ?_ | refine LeO.bind ?_ (fun _ => ?_)
theorem addr_why.mono : ∀ a0 a1 k, LeO (addr_why.f k a0 a1) (addr_why.f (k + 1) a0 a1) := by
  intro a0 a1 k
  have ih0 := addr_why.mono_l k
  unfold addr_why.f
  repeat' first | (with_reducible first | exact ih0 _ _ _ _ | exact addr_Addr_Text.mono _ _ _ | exact addr_domain.mono _ _ | exact LeO.refl _ | exact LeO.none _ | refine LeO.ite ?_ ?_ | refine LeO.bind ?_ (fun _ => ?_)) | exact ih0 _ _ _ _ | exact addr_Addr_Text.mono _ _ _ | exact addr_domain.mono _ _ | exact LeO.none _ | refine LeO.ite ?_ ?_ | refine LeO.bind ?_ (fun _ => ?_)
set_option maxHeartbeats 8000000 in
set_option maxRecDepth 100000 in
theorem addr_why.calls (k : Nat) (a0_0 : ByteArray) (a0_1 : ByteArray) (r : Int) (w : World) (h : addr_why.f k a0_0 a0_1 = some r) :
    Calls Tryz.prog 186 #[.agg #[.string a0_0, .string a0_1]] w fun e w' => e = .returned (.int .i64 r) ∧ Below w.heap.size w w' := by
 have hu45 := Tryz.underlying45
 have HB := Aside0.mk (Below.refl w.heap.size w)
 unfold addr_why.f at h
 have H := h
 clear h
 replace H := Option.bind_eq_some_iff.mp H
 obtain ⟨t307, A20, H⟩ := H
 try dsimp only at H
 have A2 := Aside0.mk A20
 clear A20
 have HC3 := Aside0.mk H
 clear H
 go_enter Tryz.func186, Tryz.ntmps186
 go_upto_region 2 with (first | ((with_reducible refine gate_dst (N := 1) rfl ?_); (try (refine gate_guard (by rfl) ?_; dsimp only)); refine box_event ?hg (N := 1) ?hd (cs := #[.string a0_0, .string a0_1]) (t := 45) ?hr ?_; (case hd => rfl); (case hg => rfl); (case hr => first | (go_simp; done) | (go_simp; rfl)); intro gb306 hg w4 hbox hb; have BK306 := Aside0.mk (hbox); have GW306 : Aside0 (w.heap.size ≤ gb306) := gw_ hg; have GE306 : Aside0 (w.heap.size ≤ gb306) := gw_ hg; replace HB := Aside0.mk (below_step blw hb); clear hb hbox hg; have hcz5_0 : w4.cell? ⟨gb306, 0, none⟩ = some (.string a0_0) := bk_ BK306; have hcz5_1 : w4.cell? ⟨gb306, 1, none⟩ = some (.string a0_1) := bk_ BK306; have hfz5_0 := blk_frozen BK306.out 0; have hfz5_1 := blk_frozen BK306.out 1) | ((with_reducible refine gc 219 rfl ?_); refine cl_ (some 6) Tryz.func219 (addr_domain.calls k a0_1 t307 _ A2.out) ?_; rintro w6 hb; replace BK306 := Aside0.mk (blk_below (g := gb306) (o := .cells #[.string a0_0, .string a0_1] 45 (0, 0)) (bkw BK306) hb); replace HB := Aside0.mk (below_step blw hb); (try clear hb)))
 (try simp only [Act.put, List.setIfInBounds_toArray, List.set_cons_zero, List.set_cons_succ])
 go_cut [19] (fun v19 wc => ∃ (kq : Nat) (x19_2 : Bool), v19 = .bool x19_2 ∧ Aside0 (addr_why.j0 kq t307 x19_2 a0_0 a0_1 = some r) ∧ Aside0 (kq ≤ k) ∧ Aside0 (wc.heap[gb306]? = some (.cells #[.string a0_0, .string a0_1] 45 (0, 0))) ∧ Aside0 (Below w.heap.size w wc))
 case first =>
  have H := HC3.out
  clear HC3
  by_cases c7 : t307 = 130
  ·rw [if_pos c7] at H
   have c7b0 := beq_iff_eq.mpr c7
   have c7b1 := bne_eq_false_iff_eq.mpr c7
   clear c7
   (first | rw [c7b0] | (simp only [i64_w, i32_w]; rw [c7b0]) | skip)
   have H' := Aside0.mk H
   clear H
   go_wp2
   go_meet
   case rel => exact ⟨_, (true), (by first | rfl | (simp; done) | (simp [*]; done) | (simp; exact (by intro l_; cases l_ <;> rfl : ∀ l_ : List UInt8, l_.isEmpty = !(l_ != [])) _)), H', omk, ⟨bkw BK306⟩, ⟨blw⟩⟩
  ·rw [if_neg c7] at H
   have c7b0 := beq_eq_false_iff_ne.mpr c7
   have c7b1 := bne_iff_ne.mpr c7
   (first | rw [c7b0] | (simp only [i64_w, i32_w]; rw [c7b0]) | skip)
   by_cases c8 : a0_0.toList = ([] : List UInt8)
   ·rw [if_pos c8] at H
    have c8b0 := beq_iff_eq.mpr c8
    have c8b1 := bne_eq_false_iff_eq.mpr c8
    clear c8
    have H' := Aside0.mk H
    clear H
    have hcz9_0 : w6.cell? ⟨gb306, 0, none⟩ = some (.string a0_0) := bk_ BK306
    have hcz9_1 : w6.cell? ⟨gb306, 1, none⟩ = some (.string a0_1) := bk_ BK306
    have hfz9_0 := blk_frozen BK306.out 0
    have hfz9_1 := blk_frozen BK306.out 1
    go_wp2
    go_meet
    case rel => exact ⟨_, (true), (by first | rfl | (simp; done) | (simp [*]; done) | (simp; exact (by intro l_; cases l_ <;> rfl : ∀ l_ : List UInt8, l_.isEmpty = !(l_ != [])) _)), H', omk, ⟨bkw BK306⟩, ⟨blw⟩⟩
   ·rw [if_neg c8] at H
    have c8b0 := beq_eq_false_iff_ne.mpr c8
    have c8b1 := bne_iff_ne.mpr c8
    replace H := Option.bind_eq_some_iff.mp H
    obtain ⟨t308, A100, H⟩ := H
    try dsimp only at H
    have A10 := Aside0.mk A100
    clear A100
    have H' := Aside0.mk H
    clear H
    have hcz11_0 : w6.cell? ⟨gb306, 0, none⟩ = some (.string a0_0) := bk_ BK306
    have hcz11_1 : w6.cell? ⟨gb306, 1, none⟩ = some (.string a0_1) := bk_ BK306
    have hfz11_0 := blk_frozen BK306.out 0
    have hfz11_1 := blk_frozen BK306.out 1
    go_wp2_with (first | (go_at_call 220; (with_reducible refine (glyph_Plain.calls a0_0 t308 _ A10.out).mono ?_); rintro e w12 ⟨rfl, hb⟩; replace BK306 := Aside0.mk (blk_below (g := gb306) (o := .cells #[.string a0_0, .string a0_1] 45 (0, 0)) (bkw BK306) hb); replace HB := Aside0.mk (below_step blw hb); (try clear hb)))
    go_meet
    case rel => exact ⟨_, (!t308), (by first | rfl | (simp; done) | (simp [*]; done) | (simp; exact (by intro l_; cases l_ <;> rfl : ∀ l_ : List UInt8, l_.isEmpty = !(l_ != [])) _)), H', omk, ⟨bkw BK306⟩, ⟨blw⟩⟩
 case rest =>
  clear HC3
  try clear c1
  try clear c2
  try clear p2
  try clear c7
  try clear c7b0
  try clear c7b1
  try clear c8
  try clear c8b0
  try clear c8b1
  try clear hcz11_0 hcz11_1
  try clear hcz5_0 hcz5_1
  try clear hcz9_0 hcz9_1
  try clear hfz11_0 hfz11_1
  try clear hfz5_0 hfz5_1
  try clear hfz9_0 hfz9_1
  obtain ⟨kq, x19_2, rfl, HA, HJ2, BK306, HB⟩ := hcut
  cases kq with
  | zero => exact absurd HA.out (by simp [addr_why.j0])
  | succ kj2 =>
   have H := HA.out
   clear HA
   simp only [addr_why.j0] at H
   by_cases c13 : x19_2 = true
   ·subst c13
    rw [if_pos rfl] at H
    obtain rfl := Option.some.inj H
    go_wp2
    go_ret
    exact ⟨by first | rfl | (simp [errW_none, errW_some] <;> rfl) | (simp [*, errW_none, errW_some] <;> rfl), blw⟩
   ·replace c13 := Bool.eq_false_iff.mpr c13
    subst c13
    rw [if_neg nft] at H
    by_cases c14 : t307 = 0
    ·rw [if_pos c14] at H
     have c14b0 := beq_iff_eq.mpr c14
     have c14b1 := bne_eq_false_iff_eq.mpr c14
     clear c14
     by_cases c15 : (a0_0.size : Int) > 64
     ·rw [if_pos c15] at H
      have c15b0 : decide (64 < (a0_0.size : Int)) = true := decide_eq_true c15
      have c15b1 : decide (64 < a0_0.size) = true := decide_eq_true (by omega)
      clear c15
      obtain rfl := Option.some.inj H
      have hcz16_0 : wc.cell? ⟨gb306, 0, none⟩ = some (.string a0_0) := bk_ BK306
      have hcz16_1 : wc.cell? ⟨gb306, 1, none⟩ = some (.string a0_1) := bk_ BK306
      have hfz16_0 := blk_frozen BK306.out 0
      have hfz16_1 := blk_frozen BK306.out 1
      go_wp2
      go_ret
      exact ⟨by first | rfl | (simp [errW_none, errW_some] <;> rfl) | (simp [*, errW_none, errW_some] <;> rfl), blw⟩
     ·rw [if_neg c15] at H
      have c15b0 : decide (64 < (a0_0.size : Int)) = false := decide_eq_false c15
      have c15b1 : decide (64 < a0_0.size) = false := decide_eq_false (by omega)
      clear c15
      replace H := Option.bind_eq_some_iff.mp H
      obtain ⟨t309, A170, H⟩ := H
      try dsimp only at H
      have A17 := Aside0.mk A170
      clear A170
      by_cases c18 : (t309.size : Int) > 254
      ·rw [if_pos c18] at H
       have c18b0 : decide (254 < (t309.size : Int)) = true := decide_eq_true c18
       have c18b1 : decide (254 < t309.size) = true := decide_eq_true (by omega)
       clear c18
       obtain rfl := Option.some.inj H
       have hcz19_0 : wc.cell? ⟨gb306, 0, none⟩ = some (.string a0_0) := bk_ BK306
       have hcz19_1 : wc.cell? ⟨gb306, 1, none⟩ = some (.string a0_1) := bk_ BK306
       have hfz19_0 := blk_frozen BK306.out 0
       have hfz19_1 := blk_frozen BK306.out 1
       go_wp2_with (first | (go_at_call 97; (with_reducible refine (addr_Addr_Text.calls kj2 a0_0 a0_1 t309 _ A17.out).mono ?_); rintro e w20 ⟨rfl, hb⟩; replace BK306 := Aside0.mk (blk_below (g := gb306) (o := .cells #[.string a0_0, .string a0_1] 45 (0, 0)) (bkw BK306) hb); replace HB := Aside0.mk (below_step blw hb); (try clear hb)))
       go_ret
       exact ⟨by first | rfl | (simp [errW_none, errW_some] <;> rfl) | (simp [*, errW_none, errW_some] <;> rfl), blw⟩
      ·rw [if_neg c18] at H
       have c18b0 : decide (254 < (t309.size : Int)) = false := decide_eq_false c18
       have c18b1 : decide (254 < t309.size) = false := decide_eq_false (by omega)
       clear c18
       obtain rfl := Option.some.inj H
       have hcz21_0 : wc.cell? ⟨gb306, 0, none⟩ = some (.string a0_0) := bk_ BK306
       have hcz21_1 : wc.cell? ⟨gb306, 1, none⟩ = some (.string a0_1) := bk_ BK306
       have hfz21_0 := blk_frozen BK306.out 0
       have hfz21_1 := blk_frozen BK306.out 1
       go_wp2_with (first | (go_at_call 97; (with_reducible refine (addr_Addr_Text.calls kj2 a0_0 a0_1 t309 _ A17.out).mono ?_); rintro e w22 ⟨rfl, hb⟩; replace BK306 := Aside0.mk (blk_below (g := gb306) (o := .cells #[.string a0_0, .string a0_1] 45 (0, 0)) (bkw BK306) hb); replace HB := Aside0.mk (below_step blw hb); (try clear hb)))
       go_ret
       exact ⟨by first | rfl | (simp [errW_none, errW_some] <;> rfl) | (simp [*, errW_none, errW_some] <;> rfl), blw⟩
    ·rw [if_neg c14] at H
     have c14b0 := beq_eq_false_iff_ne.mpr c14
     have c14b1 := bne_iff_ne.mpr c14
     obtain rfl := Option.some.inj H
     go_wp2
     go_ret
     exact ⟨by first | rfl | (simp [errW_none, errW_some] <;> rfl) | (simp [*, errW_none, errW_some] <;> rfl), blw⟩
/-! ### addr_Of: function 143 -/
mutual
def addr_Of.j0 : Nat → List (S238) → ByteArray → Bool → Option (ByteArray × ByteArray × Int)
  | 0, _, _, _ => none
  | k + 1, x0, x4, x21 => if x21 = true then (some ((⟨#[]⟩ : ByteArray), (⟨#[]⟩ : ByteArray), 130)) else (if 1 ≤ (x0.length : Int) then ((addr_joined.f k (x0.drop 1) true).bind fun bt322 => (if bt322.2.2 = true then (addr_Of.j1 k x4 bt322.1 (decide ((bt322.2.1.length : Int) > 0))) else (addr_Of.j1 k x4 bt322.1 true))) else (none))
def addr_Of.j1 : Nat → ByteArray → ByteArray → Bool → Option (ByteArray × ByteArray × Int)
  | 0, _, _, _ => none
  | k + 1, x4, x6, x36 => if x36 = true then (some ((⟨#[]⟩ : ByteArray), (⟨#[]⟩ : ByteArray), 130)) else ((glyph_Fold.f x6).bind fun t327 => ((addr_why.f k x4 t327).bind fun t329 => (if t329 = 0 then (some (x4, t327, 0)) else (some ((⟨#[]⟩ : ByteArray), (⟨#[]⟩ : ByteArray), t329)))))
end
def addr_Of.f (k : Nat) (l0 : List (S238)) : Option (ByteArray × ByteArray × Int) := (addr_joined.f k l0 false).bind fun bt311 => (if bt311.2.2 = true then ((addr_is.f bt311.2.1 (⟨#[64]⟩ : ByteArray)).bind fun t316 => (addr_Of.j0 k bt311.2.1 bt311.1 (!t316))) else (addr_Of.j0 k bt311.2.1 bt311.1 true))
theorem addr_Of.mono_l : ∀ k, (∀ y0 y1 y2, LeO (addr_Of.j0 k y0 y1 y2) (addr_Of.j0 (k + 1) y0 y1 y2)) ∧ (∀ y0 y1 y2, LeO (addr_Of.j1 k y0 y1 y2) (addr_Of.j1 (k + 1) y0 y1 y2))
  | 0 => ⟨fun _ _ _ r h => by simp [addr_Of.j0] at h, fun _ _ _ r h => by simp [addr_Of.j1] at h⟩
  | k + 1 => by
    obtain ⟨ih0, ih1⟩ := addr_Of.mono_l k
    refine ⟨?_, ?_⟩
    · intro y0 y1 y2
      unfold addr_Of.j0
      repeat' first | (with_reducible first | exact ih0 _ _ _ | exact ih1 _ _ _ | exact addr_joined.mono _ _ _ | exact addr_why.mono _ _ _ | exact LeO.refl _ | exact LeO.none _ | refine LeO.ite ?_ ?_ | refine LeO.bind ?_ (fun _ => ?_)) | exact ih0 _ _ _ | exact ih1 _ _ _ | exact addr_joined.mono _ _ _ | exact addr_why.mono _ _ _ | exact LeO.none _ | refine LeO.ite ?_ ?_ | refine LeO.bind ?_ (fun _ => ?_)
    · intro y0 y1 y2
      unfold addr_Of.j1
      repeat' first | (with_reducible first | exact ih0 _ _ _ | exact ih1 _ _ _ | exact addr_joined.mono _ _ _ | exact addr_why.mono _ _ _ | exact LeO.refl _ | exact LeO.none _ | refine LeO.ite ?_ ?_ | refine LeO.bind ?_ (fun _ => ?_)) | exact ih0 _ _ _ | exact ih1 _ _ _ | exact addr_joined.mono _ _ _ | exact addr_why.mono _ _ _ | exact LeO.none _ | refine LeO.ite ?_ ?_ | refine LeO.bind ?_ (fun _ => ?_)
theorem addr_Of.mono : ∀ a0 k, LeO (addr_Of.f k a0) (addr_Of.f (k + 1) a0) := by
  intro a0 k
  obtain ⟨ih0, ih1⟩ := addr_Of.mono_l k
  unfold addr_Of.f
  repeat' first | (with_reducible first | exact ih0 _ _ _ | exact ih1 _ _ _ | exact addr_joined.mono _ _ _ | exact addr_why.mono _ _ _ | exact LeO.refl _ | exact LeO.none _ | refine LeO.ite ?_ ?_ | refine LeO.bind ?_ (fun _ => ?_)) | exact ih0 _ _ _ | exact ih1 _ _ _ | exact addr_joined.mono _ _ _ | exact addr_why.mono _ _ _ | exact LeO.none _ | refine LeO.ite ?_ ?_ | refine LeO.bind ?_ (fun _ => ?_)
set_option maxHeartbeats 8000000 in
set_option maxRecDepth 100000 in
theorem addr_Of.calls (k : Nat) (A0 : Option Addr) (c0 : Nat) (l0 : List (S238)) (r1 : ByteArray) (r2 : ByteArray) (r3 : Int) (w : World) (hr0 : Kd.C k238 w A0 l0.length l0) (hc0 : l0.length ≤ c0) (h : addr_Of.f k l0 = some (r1, r2, r3)) :
    Calls Tryz.prog 143 #[.slice A0 l0.length c0] w fun e w' => e = .returned (.tuple #[.agg #[.string r1, .string r2], .int .i64 r3]) ∧ Below w.heap.size w w' := by
 have hu45 := Tryz.underlying45
 have HR0 := Aside0.mk hr0
 have HC0 := Aside0.mk hc0
 clear hr0 hc0
 have HB := Aside0.mk (Below.refl w.heap.size w)
 unfold addr_Of.f at h
 have H := h
 clear h
 replace H := Option.bind_eq_some_iff.mp H
 obtain ⟨⟨t311, t312, t315⟩, A20, H⟩ := H
 try dsimp only at H
 have A2 := Aside0.mk A20
 clear A20
 have HC3 := Aside0.mk H
 clear H
 go_enter Tryz.func143, Tryz.ntmps143
 go_upto_region 2 with (first | ((with_reducible refine gate_dst (N := 2) rfl ?_); (try (refine gate_guard (by rfl) ?_; dsimp only)); refine box_event ?hg (N := 2) ?hd (cs := #[.string (⟨#[]⟩ : ByteArray), .string (⟨#[]⟩ : ByteArray)]) (t := 45) ?hr ?_; (case hd => rfl); (case hg => rfl); (case hr => first | (go_simp; done) | (go_simp; rfl)); intro gb310 hg w4 hbox hb; have BK310 := Aside0.mk (hbox); have GW310 : Aside0 (w.heap.size ≤ gb310) := gw_ hg; have GE310 : Aside0 (w.heap.size ≤ gb310) := gw_ hg; replace HB := Aside0.mk (below_step blw hb); clear hb hbox hg) | ((with_reducible refine gc 184 rfl ?_); refine gl_ (some 11) Tryz.func184 #[.slice A0 l0.length c0, .bool false] ?_; (with_reducible refine (addr_joined.calls k (fun k_ => k_ < w.heap.size) _ _ l0 false t311 t312 t315 _ ?side1 A2.out).mono ?_); (case side1 => exact Kd.V_mk HC0.out (Kd.F_below (Kd.C_F k238_heap HR0.out) blw)); rintro e w5 ⟨v313, rfl, ho0, hb⟩; refine ⟨_, rfl, ?_⟩; have HO314 := Aside0.mk (Kd.V_lower (Kd.V_mono (ok' := fun k_ => k_ ≠ gb310) ho0 (fun k_ hk_ => Or.elim hk_ (fun hs_ => fun e_ => Nat.not_le.2 hs_ (by rw [e_]; exact GW310.out)) (fun hn_ => (Kd.freshB (g := gb310) (o := .cells #[.string (⟨#[]⟩ : ByteArray), .string (⟨#[]⟩ : ByteArray)] 45 (0, 0)) (bkw BK310) k_ hn_)))) (below_size blw)); replace BK310 := Aside0.mk (blk_below (g := gb310) (o := .cells #[.string (⟨#[]⟩ : ByteArray), .string (⟨#[]⟩ : ByteArray)] 45 (0, 0)) (bkw BK310) hb); replace HB := Aside0.mk (below_step blw hb); (try clear hb); (try clear ho0)))
 (try simp only [Act.put, List.setIfInBounds_toArray, List.set_cons_zero, List.set_cons_succ])
 go_cut [21] (fun v21 wc => ∃ (kq : Nat) (x21_2 : Bool), v21 = .bool x21_2 ∧ Aside0 (addr_Of.j0 kq t312 t311 x21_2 = some (r1, r2, r3)) ∧ Aside0 (kq ≤ k) ∧ Aside0 (Kd.V k238 238 wc w.heap.size (fun k_ => k_ ≠ gb310) v313 t312) ∧ Aside0 (wc.heap[gb310]? = some (.cells #[.string (⟨#[]⟩ : ByteArray), .string (⟨#[]⟩ : ByteArray)] 45 (0, 0))) ∧ Aside0 (Below w.heap.size w wc))
 case first =>
  have H := HC3.out
  clear HC3
  by_cases c6 : t315 = true
  ·subst c6
   rw [if_pos rfl] at H
   replace H := Option.bind_eq_some_iff.mp H
   obtain ⟨t316, A70, H⟩ := H
   try dsimp only at H
   have A7 := Aside0.mk A70
   clear A70
   have H' := Aside0.mk H
   clear H
   obtain ⟨Ao8, co8, eo8⟩ := Kd.V_slice HO314.out
   subst eo8
   go_wp2_with (first | (go_at_call 185; (with_reducible refine (addr_is.calls _ _ t312 (⟨#[64]⟩ : ByteArray) t316 _ ?side1 ?side2 A7.out).mono ?_); (case side1 => repeat (first | exact (Kd.V_reads' HO314.out).2.2 | (with_reducible refine Kd.C_alloc ?_ _) | (with_reducible refine Kd.C_drewN ?_ _) | (with_reducible refine Kd.C_drew ?_))); (case side2 => exact (Kd.V_reads' HO314.out).2.1); rintro e w' ⟨rfl, ⟨nd, rfl⟩⟩))
   go_meet
   case rel => exact ⟨_, (!t316), eqs, H', omk, ⟨by (with_reducible repeat (first | apply Kd.V_alloc | apply Kd.V_drewN | apply Kd.V_drew)); exact HO314.out⟩, ⟨bkw BK310⟩, ⟨blw⟩⟩
  ·replace c6 := Bool.eq_false_iff.mpr c6
   subst c6
   rw [if_neg nft] at H
   have H' := Aside0.mk H
   clear H
   go_wp2
   go_meet
   case rel => exact ⟨_, (true), eqs, H', omk, ⟨by (with_reducible repeat (first | apply Kd.V_alloc | apply Kd.V_drewN | apply Kd.V_drew)); exact HO314.out⟩, ⟨bkw BK310⟩, ⟨blw⟩⟩
 case rest =>
  clear HC3
  try clear c1
  try clear p2
  try clear c6
  obtain ⟨kq, x21_2, rfl, HA, HJ2, HO_0, BK310, HB⟩ := hcut
  cases kq with
  | zero => exact absurd HA.out (by simp [addr_Of.j0])
  | succ kj2 =>
   have H := HA.out
   clear HA
   simp only [addr_Of.j0] at H
   by_cases c9 : x21_2 = true
   ·subst c9
    rw [if_pos rfl] at H
    simp only [Option.some.injEq, Prod.mk.injEq] at H
    obtain ⟨rfl, rfl, rfl⟩ := H
    have hcz10_0 : wc.cell? ⟨gb310, 0, none⟩ = some (.string (⟨#[]⟩ : ByteArray)) := bk_ BK310
    have hcz10_1 : wc.cell? ⟨gb310, 1, none⟩ = some (.string (⟨#[]⟩ : ByteArray)) := bk_ BK310
    have hfz10_0 := blk_frozen BK310.out 0
    have hfz10_1 := blk_frozen BK310.out 1
    go_wp2
    refine bodyPost_ret (results_ct rfl _ _ gb310 45 #[.string (⟨#[]⟩ : ByteArray), .string (⟨#[]⟩ : ByteArray)] (0, 0) _ rfl (by (with_reducible repeat (first | refine blk_drewN ?_ _ | refine blk_drew ?_ | refine blk_alloc ?_ _)); refine blk_put (cs := #[.string (⟨#[]⟩ : ByteArray), .string (⟨#[]⟩ : ByteArray)]) ?_ 1 _ rfl; (with_reducible repeat (first | refine blk_drewN ?_ _ | refine blk_drew ?_ | refine blk_alloc ?_ _)); refine blk_put (cs := #[.string (⟨#[]⟩ : ByteArray), .string (⟨#[]⟩ : ByteArray)]) ?_ 0 _ rfl; (with_reducible repeat (first | refine blk_drewN ?_ _ | refine blk_drew ?_ | refine blk_alloc ?_ _)); exact BK310.out) Tryz.underlying45 rfl (by kernel_rfl)) rfl ?_
    exact ⟨by first | rfl | (simp [errW_none, errW_some] <;> rfl) | (simp [*, errW_none, errW_some] <;> rfl), blw⟩
   ·replace c9 := Bool.eq_false_iff.mpr c9
    subst c9
    rw [if_neg nft] at H
    obtain ⟨c11, H⟩ := iteS H
    have c11b0 := eq_true c11
    have c11b1 := decide_eq_true c11
    clear c11
    obtain ⟨y317, hy317⟩ : ∃ y_ : List (S238), y_ = (t312.drop 1) := ⟨_, rfl⟩
    replace H : ((addr_joined.f kj2 y317 true).bind fun bt322 => (if bt322.2.2 = true then (addr_Of.j1 kj2 t311 bt322.1 (decide ((bt322.2.1.length : Int) > 0))) else (addr_Of.j1 kj2 t311 bt322.1 true))) = some (r1, r2, r3) := by first | (rw [hy317]; with_reducible exact H) | (have H2_ := (Option.bind_some _ _).symm.trans H; rw [hy317]; with_reducible exact H2_) | (have H2_ := (Option.bind_some _ _).symm.trans H; with_reducible exact H2_) | with_reducible exact H | (rw [hy317]; exact H) | exact H
    have Ny317 := Aside0.mk hy317
    clear hy317
    replace H := Option.bind_eq_some_iff.mp H
    obtain ⟨⟨t322, t323, t326⟩, A120, H⟩ := H
    try dsimp only at H
    have A12 := Aside0.mk A120
    clear A120
    have HC13 := Aside0.mk H
    clear H
    obtain ⟨Ao15, co15, eo15⟩ := Kd.V_slice HO_0.out
    subst eo15
    have q14 : (1 : Int) ≤ ((t312.length : Int) : Int) := od_
    obtain ⟨i014, hi014, _, hsz14, _⟩ := info_parts info238
    have hroom14 : t312.length ≤ co15 := (Kd.V_reads' HO_0.out).2.1
    have hC14 : Kd.F k238 _ _ Ao15 t312.length t312 := (Kd.V_at (base := w.heap.size) HO_0.out).2.2
    have hcut14 := cut_from (P := Tryz.prog) 199 238 .i64 Tryz.underlying199 hi014 2 hsz14 Ao15 t312.length co15 1 (by omega) q14
    have hr14 := Kd.F_cut (m := (1 : Int).toNat) (c := co15) hC14 (by omega) hroom14
    obtain ⟨A14, hA14⟩ : ∃ A1, A1 = (if co15 = (1 : Int).toNat then Ao15 else (Ao15 : Option Addr).map (·.add ((1 : Int).toNat * 2))) := ⟨_, rfl⟩
    obtain ⟨c14, hc14⟩ : ∃ c1, c1 = co15 - (1 : Int).toNat := ⟨_, rfl⟩
    have hy14 : y317.length = t312.length - (1 : Int).toNat := (by rw [Ny317.out, List.length_drop] <;> omega)
    rw [show (t312).drop (1 : Int).toNat = y317 from Ny317.out.symm] at hr14
    replace hr14 : Kd.F k238 _ _ A14 y317.length y317 := (by rw [hA14]; exact hr14)
    rw [← hy14, ← hA14, ← hc14] at hcut14
    have HO321 := Aside0.mk (show Kd.V k238 238 _ w.heap.size _ (.slice A14 y317.length c14) y317 from Kd.V_mk (by rw [hy14, hc14]; exact Nat.sub_le_sub_right hroom14 _) hr14)
    have HC321 := Aside0.mk (show y317.length ≤ c14 from by rw [hy14, hc14]; exact Nat.sub_le_sub_right hroom14 _)
    clear hr14 hC14 hroom14 hi014 hsz14 hc14
    have KY14 := Aside0.mk hy14
    have KA14 := Aside0.mk hA14
    clear hy14 hA14
    replace q14 := eq_true q14
    go_upto_region 5 with (first | ((with_reducible refine gc 184 rfl ?_); refine gl_ (some 26) Tryz.func184 #[.slice A14 y317.length c14, .bool true] ?_; (with_reducible refine (addr_joined.calls kj2 (fun k_ => k_ ≠ gb310) _ _ y317 true t322 t323 t326 _ ?side1 A12.out).mono ?_); (case side1 => exact HO321.out); rintro e w16 ⟨v324, rfl, ho0, hb⟩; refine ⟨_, rfl, ?_⟩; replace HO_0 := Aside0.mk (Kd.V_below (by (with_reducible repeat (first | apply Kd.V_alloc | apply Kd.V_drewN | apply Kd.V_drew)); exact HO_0.out) hb); replace HO321 := Aside0.mk (Kd.V_below (by (with_reducible repeat (first | apply Kd.V_alloc | apply Kd.V_drewN | apply Kd.V_drew)); exact HO321.out) hb); have HO325 := Aside0.mk (Kd.V_lower (Kd.V_mono (ok' := fun k_ => k_ ≠ gb310) ho0 (fun k_ hk_ => Or.elim hk_ (fun hs_ => hs_) (fun hn_ => (Kd.freshB (g := gb310) (o := .cells #[.string (⟨#[]⟩ : ByteArray), .string (⟨#[]⟩ : ByteArray)] 45 (0, 0)) (bkw BK310) k_ hn_)))) (below_size blw)); replace BK310 := Aside0.mk (blk_below (g := gb310) (o := .cells #[.string (⟨#[]⟩ : ByteArray), .string (⟨#[]⟩ : ByteArray)] 45 (0, 0)) (bkw BK310) hb); replace HB := Aside0.mk (below_step blw hb); (try clear hb); (try clear ho0)))
    (try simp only [Act.put, List.setIfInBounds_toArray, List.set_cons_zero, List.set_cons_succ])
    go_cut [36] (fun v36 wc => ∃ (kq : Nat) (x36_12 : Bool), v36 = .bool x36_12 ∧ Aside0 (addr_Of.j1 kq t311 t322 x36_12 = some (r1, r2, r3)) ∧ Aside0 (kq ≤ kj2) ∧ Aside0 (wc.heap[gb310]? = some (.cells #[.string (⟨#[]⟩ : ByteArray), .string (⟨#[]⟩ : ByteArray)] 45 (0, 0))) ∧ Aside0 (Below w.heap.size w wc))
    case first =>
     have H := HC13.out
     clear HC13
     by_cases c17 : t326 = true
     ·subst c17
      rw [if_pos rfl] at H
      have H' := Aside0.mk H
      clear H
      obtain ⟨Ao18, co18, eo18⟩ := Kd.V_slice HO325.out
      subst eo18
      go_wp2
      go_meet
      case rel => exact ⟨_, (decide ((t323.length : Int) > 0)), eqs, H', ⟨by have := HJ2.out; first | omega | exact Nat.le_refl _⟩, ⟨bkw BK310⟩, ⟨blw⟩⟩
     ·replace c17 := Bool.eq_false_iff.mpr c17
      subst c17
      rw [if_neg nft] at H
      have H' := Aside0.mk H
      clear H
      go_wp2
      go_meet
      case rel => exact ⟨_, (true), eqs, H', ⟨by have := HJ2.out; first | omega | exact Nat.le_refl _⟩, ⟨bkw BK310⟩, ⟨blw⟩⟩
    case rest =>
     clear HC13
     try clear c1
     try clear q1
     try clear p2
     try clear c6
     try clear c9
     try clear c11
     try clear c11b0
     try clear c11b1
     try clear c14
     try clear q14
     try clear c17
     try clear c18
     try clear hcz10_0 hcz10_1
     try clear hfz10_0 hfz10_1
     try clear p2
     try clear q14
     obtain ⟨kq, x36_12, rfl, HA, HJ12, BK310, HB⟩ := hcut
     cases kq with
     | zero => exact absurd HA.out (by simp [addr_Of.j1])
     | succ kj12 =>
      have H := HA.out
      clear HA
      simp only [addr_Of.j1] at H
      by_cases c19 : x36_12 = true
      ·subst c19
       rw [if_pos rfl] at H
       simp only [Option.some.injEq, Prod.mk.injEq] at H
       obtain ⟨rfl, rfl, rfl⟩ := H
       have hcz20_0 : wc.cell? ⟨gb310, 0, none⟩ = some (.string (⟨#[]⟩ : ByteArray)) := bk_ BK310
       have hcz20_1 : wc.cell? ⟨gb310, 1, none⟩ = some (.string (⟨#[]⟩ : ByteArray)) := bk_ BK310
       have hfz20_0 := blk_frozen BK310.out 0
       have hfz20_1 := blk_frozen BK310.out 1
       go_wp2
       refine bodyPost_ret (results_ct rfl _ _ gb310 45 #[.string (⟨#[]⟩ : ByteArray), .string (⟨#[]⟩ : ByteArray)] (0, 0) _ rfl (by (with_reducible repeat (first | refine blk_drewN ?_ _ | refine blk_drew ?_ | refine blk_alloc ?_ _)); refine blk_put (cs := #[.string (⟨#[]⟩ : ByteArray), .string (⟨#[]⟩ : ByteArray)]) ?_ 1 _ rfl; (with_reducible repeat (first | refine blk_drewN ?_ _ | refine blk_drew ?_ | refine blk_alloc ?_ _)); refine blk_put (cs := #[.string (⟨#[]⟩ : ByteArray), .string (⟨#[]⟩ : ByteArray)]) ?_ 0 _ rfl; (with_reducible repeat (first | refine blk_drewN ?_ _ | refine blk_drew ?_ | refine blk_alloc ?_ _)); exact BK310.out) Tryz.underlying45 rfl (by kernel_rfl)) rfl ?_
       exact ⟨by first | rfl | (simp [errW_none, errW_some] <;> rfl) | (simp [*, errW_none, errW_some] <;> rfl), blw⟩
      ·replace c19 := Bool.eq_false_iff.mpr c19
       subst c19
       rw [if_neg nft] at H
       replace H := Option.bind_eq_some_iff.mp H
       obtain ⟨t327, A210, H⟩ := H
       try dsimp only at H
       have A21 := Aside0.mk A210
       clear A210
       replace H := Option.bind_eq_some_iff.mp H
       obtain ⟨t329, A220, H⟩ := H
       try dsimp only at H
       have A22 := Aside0.mk A220
       clear A220
       by_cases c23 : t329 = 0
       ·rw [if_pos c23] at H
        have c23b0 := beq_iff_eq.mpr c23
        have c23b1 := bne_eq_false_iff_eq.mpr c23
        clear c23
        simp only [Option.some.injEq, Prod.mk.injEq] at H
        obtain ⟨rfl, rfl, rfl⟩ := H
        go_wp2_with (first | ((with_reducible refine gc 96 rfl ?_); refine cl_ (some 40) Tryz.func96 (glyph_Fold.calls t322 t327 _ A21.out) ?_; rintro w24 hb; replace BK310 := Aside0.mk (blk_below (g := gb310) (o := .cells #[.string (⟨#[]⟩ : ByteArray), .string (⟨#[]⟩ : ByteArray)] 45 (0, 0)) (bkw BK310) hb); replace HB := Aside0.mk (below_step blw hb); (try clear hb)) | ((with_reducible refine gate_dst (N := 7) rfl ?_); (try (refine gate_guard (by rfl) ?_; dsimp only)); refine box_event ?hg (N := 7) ?hd (cs := #[.string (⟨#[]⟩ : ByteArray), .string (⟨#[]⟩ : ByteArray)]) (t := 45) ?hr ?_; (case hd => rfl); (case hg => rfl); (case hr => first | (go_simp; done) | (go_simp; rfl)); intro gb328 hg w25 hbox hb; have BK328 := Aside0.mk (hbox); have GW328 : Aside0 (w.heap.size ≤ gb328) := gw_ hg; have GE328 : Aside0 (w.heap.size ≤ gb328) := gw_ hg; replace HB := Aside0.mk (below_step blw hb); have NB310_328 := Aside0.mk ((by rw [hg]; exact Nat.ne_of_lt (blk_lt (g := gb310) (o := .cells #[.string (⟨#[]⟩ : ByteArray), .string (⟨#[]⟩ : ByteArray)] 45 (0, 0)) (bkw BK310)) : gb310 ≠ gb328)); have NB328_310 := Aside0.mk ((by rw [hg]; exact Nat.ne_of_gt (blk_lt (g := gb310) (o := .cells #[.string (⟨#[]⟩ : ByteArray), .string (⟨#[]⟩ : ByteArray)] 45 (0, 0)) (bkw BK310)) : gb328 ≠ gb310)); replace BK310 := Aside0.mk (blk_below (g := gb310) (o := .cells #[.string (⟨#[]⟩ : ByteArray), .string (⟨#[]⟩ : ByteArray)] 45 (0, 0)) (bkw BK310) hb); clear hb hbox hg; have hnb26 := NB328_310.out; have hnc26 := NB310_328.out; have hcz27_0 : w25.cell? ⟨gb328, 0, none⟩ = some (.string (⟨#[]⟩ : ByteArray)) := bk_ BK328; have hcz27_1 : w25.cell? ⟨gb328, 1, none⟩ = some (.string (⟨#[]⟩ : ByteArray)) := bk_ BK328; have hfz27_0 := blk_frozen BK328.out 0; have hfz27_1 := blk_frozen BK328.out 1) | ((with_reducible refine gc 186 rfl ?_); refine cl_ (some 43) Tryz.func186 (addr_why.calls kj12 t311 t327 t329 _ A22.out) ?_; rintro w28 hb; replace BK310 := Aside0.mk (blk_below (g := gb310) (o := .cells #[.string (⟨#[]⟩ : ByteArray), .string (⟨#[]⟩ : ByteArray)] 45 (0, 0)) (by (with_reducible repeat (first | refine blk_drewN ?_ _ | refine blk_drew ?_ | refine blk_alloc ?_ _)); refine blk_far ?_ NB310_328.out _; (with_reducible repeat (first | refine blk_drewN ?_ _ | refine blk_drew ?_ | refine blk_alloc ?_ _)); refine blk_far ?_ NB310_328.out _; (with_reducible repeat (first | refine blk_drewN ?_ _ | refine blk_drew ?_ | refine blk_alloc ?_ _)); exact BK310.out) hb); replace BK328 := Aside0.mk (blk_below (g := gb328) (o := .cells #[.string t311, .string t327] 45 (0, 0)) (by (with_reducible repeat (first | refine blk_drewN ?_ _ | refine blk_drew ?_ | refine blk_alloc ?_ _)); refine blk_put (cs := #[.string t311, .string (⟨#[]⟩ : ByteArray)]) ?_ 1 _ rfl; (with_reducible repeat (first | refine blk_drewN ?_ _ | refine blk_drew ?_ | refine blk_alloc ?_ _)); refine blk_put (cs := #[.string (⟨#[]⟩ : ByteArray), .string (⟨#[]⟩ : ByteArray)]) ?_ 0 _ rfl; (with_reducible repeat (first | refine blk_drewN ?_ _ | refine blk_drew ?_ | refine blk_alloc ?_ _)); exact BK328.out) hb); replace HB := Aside0.mk (below_step blw hb); (try clear hb); have hcz29_0 : w28.cell? ⟨gb328, 0, none⟩ = some (.string t311) := bk_ BK328; have hcz29_1 : w28.cell? ⟨gb328, 1, none⟩ = some (.string t327) := bk_ BK328; have hfz29_0 := blk_frozen BK328.out 0; have hfz29_1 := blk_frozen BK328.out 1; have hcz30_0 : w28.cell? ⟨gb310, 0, none⟩ = some (.string (⟨#[]⟩ : ByteArray)) := bk_ BK310; have hcz30_1 : w28.cell? ⟨gb310, 1, none⟩ = some (.string (⟨#[]⟩ : ByteArray)) := bk_ BK310; have hfz30_0 := blk_frozen BK310.out 0; have hfz30_1 := blk_frozen BK310.out 1))
        refine bodyPost_ret (results_ct rfl _ _ gb310 45 #[.string t311, .string t327] (0, 0) _ rfl (by (with_reducible repeat (first | refine blk_drewN ?_ _ | refine blk_drew ?_ | refine blk_alloc ?_ _)); refine blk_put (cs := #[.string t311, .string (⟨#[]⟩ : ByteArray)]) ?_ 1 _ rfl; (with_reducible repeat (first | refine blk_drewN ?_ _ | refine blk_drew ?_ | refine blk_alloc ?_ _)); refine blk_put (cs := #[.string (⟨#[]⟩ : ByteArray), .string (⟨#[]⟩ : ByteArray)]) ?_ 0 _ rfl; (with_reducible repeat (first | refine blk_drewN ?_ _ | refine blk_drew ?_ | refine blk_alloc ?_ _)); exact BK310.out) Tryz.underlying45 rfl (by kernel_rfl)) rfl ?_
        exact ⟨by first | rfl | (simp [errW_none, errW_some] <;> rfl) | (simp [*, errW_none, errW_some] <;> rfl), blw⟩
       ·rw [if_neg c23] at H
        have c23b0 := beq_eq_false_iff_ne.mpr c23
        have c23b1 := bne_iff_ne.mpr c23
        simp only [Option.some.injEq, Prod.mk.injEq] at H
        obtain ⟨rfl, rfl, rfl⟩ := H
        go_wp2_with (first | ((with_reducible refine gc 96 rfl ?_); refine cl_ (some 40) Tryz.func96 (glyph_Fold.calls t322 t327 _ A21.out) ?_; rintro w31 hb; replace BK310 := Aside0.mk (blk_below (g := gb310) (o := .cells #[.string (⟨#[]⟩ : ByteArray), .string (⟨#[]⟩ : ByteArray)] 45 (0, 0)) (bkw BK310) hb); replace HB := Aside0.mk (below_step blw hb); (try clear hb)) | ((with_reducible refine gate_dst (N := 7) rfl ?_); (try (refine gate_guard (by rfl) ?_; dsimp only)); refine box_event ?hg (N := 7) ?hd (cs := #[.string (⟨#[]⟩ : ByteArray), .string (⟨#[]⟩ : ByteArray)]) (t := 45) ?hr ?_; (case hd => rfl); (case hg => rfl); (case hr => first | (go_simp; done) | (go_simp; rfl)); intro gb328 hg w32 hbox hb; have BK328 := Aside0.mk (hbox); have GW328 : Aside0 (w.heap.size ≤ gb328) := gw_ hg; have GE328 : Aside0 (w.heap.size ≤ gb328) := gw_ hg; replace HB := Aside0.mk (below_step blw hb); have NB310_328 := Aside0.mk ((by rw [hg]; exact Nat.ne_of_lt (blk_lt (g := gb310) (o := .cells #[.string (⟨#[]⟩ : ByteArray), .string (⟨#[]⟩ : ByteArray)] 45 (0, 0)) (bkw BK310)) : gb310 ≠ gb328)); have NB328_310 := Aside0.mk ((by rw [hg]; exact Nat.ne_of_gt (blk_lt (g := gb310) (o := .cells #[.string (⟨#[]⟩ : ByteArray), .string (⟨#[]⟩ : ByteArray)] 45 (0, 0)) (bkw BK310)) : gb328 ≠ gb310)); replace BK310 := Aside0.mk (blk_below (g := gb310) (o := .cells #[.string (⟨#[]⟩ : ByteArray), .string (⟨#[]⟩ : ByteArray)] 45 (0, 0)) (bkw BK310) hb); clear hb hbox hg; have hnb33 := NB328_310.out; have hnc33 := NB310_328.out; have hcz34_0 : w32.cell? ⟨gb328, 0, none⟩ = some (.string (⟨#[]⟩ : ByteArray)) := bk_ BK328; have hcz34_1 : w32.cell? ⟨gb328, 1, none⟩ = some (.string (⟨#[]⟩ : ByteArray)) := bk_ BK328; have hfz34_0 := blk_frozen BK328.out 0; have hfz34_1 := blk_frozen BK328.out 1) | ((with_reducible refine gc 186 rfl ?_); refine cl_ (some 43) Tryz.func186 (addr_why.calls kj12 t311 t327 t329 _ A22.out) ?_; rintro w35 hb; replace BK310 := Aside0.mk (blk_below (g := gb310) (o := .cells #[.string (⟨#[]⟩ : ByteArray), .string (⟨#[]⟩ : ByteArray)] 45 (0, 0)) (by (with_reducible repeat (first | refine blk_drewN ?_ _ | refine blk_drew ?_ | refine blk_alloc ?_ _)); refine blk_far ?_ NB310_328.out _; (with_reducible repeat (first | refine blk_drewN ?_ _ | refine blk_drew ?_ | refine blk_alloc ?_ _)); refine blk_far ?_ NB310_328.out _; (with_reducible repeat (first | refine blk_drewN ?_ _ | refine blk_drew ?_ | refine blk_alloc ?_ _)); exact BK310.out) hb); replace BK328 := Aside0.mk (blk_below (g := gb328) (o := .cells #[.string t311, .string t327] 45 (0, 0)) (by (with_reducible repeat (first | refine blk_drewN ?_ _ | refine blk_drew ?_ | refine blk_alloc ?_ _)); refine blk_put (cs := #[.string t311, .string (⟨#[]⟩ : ByteArray)]) ?_ 1 _ rfl; (with_reducible repeat (first | refine blk_drewN ?_ _ | refine blk_drew ?_ | refine blk_alloc ?_ _)); refine blk_put (cs := #[.string (⟨#[]⟩ : ByteArray), .string (⟨#[]⟩ : ByteArray)]) ?_ 0 _ rfl; (with_reducible repeat (first | refine blk_drewN ?_ _ | refine blk_drew ?_ | refine blk_alloc ?_ _)); exact BK328.out) hb); replace HB := Aside0.mk (below_step blw hb); (try clear hb); have hcz36_0 : w35.cell? ⟨gb310, 0, none⟩ = some (.string (⟨#[]⟩ : ByteArray)) := bk_ BK310; have hcz36_1 : w35.cell? ⟨gb310, 1, none⟩ = some (.string (⟨#[]⟩ : ByteArray)) := bk_ BK310; have hfz36_0 := blk_frozen BK310.out 0; have hfz36_1 := blk_frozen BK310.out 1))
        refine bodyPost_ret (results_ct rfl _ _ gb310 45 #[.string (⟨#[]⟩ : ByteArray), .string (⟨#[]⟩ : ByteArray)] (0, 0) _ rfl (by (with_reducible repeat (first | refine blk_drewN ?_ _ | refine blk_drew ?_ | refine blk_alloc ?_ _)); refine blk_put (cs := #[.string (⟨#[]⟩ : ByteArray), .string (⟨#[]⟩ : ByteArray)]) ?_ 1 _ rfl; (with_reducible repeat (first | refine blk_drewN ?_ _ | refine blk_drew ?_ | refine blk_alloc ?_ _)); refine blk_put (cs := #[.string (⟨#[]⟩ : ByteArray), .string (⟨#[]⟩ : ByteArray)]) ?_ 0 _ rfl; (with_reducible repeat (first | refine blk_drewN ?_ _ | refine blk_drew ?_ | refine blk_alloc ?_ _)); exact BK310.out) Tryz.underlying45 rfl (by kernel_rfl)) rfl ?_
        exact ⟨by first | rfl | (simp [errW_none, errW_some] <;> rfl) | (simp [*, errW_none, errW_some] <;> rfl), blw⟩
/-! ### addr_Parse: function 99 -/
def addr_Parse.f (k : Nat) (a0 : ByteArray) : Option (ByteArray × ByteArray × Int) := (lex_Scan.f k a0).bind fun bt331 => (if bt331.2 = 0 then ((addr_Of.f k bt331.1).bind fun bt335 => (some (bt335.1, bt335.2.1, bt335.2.2))) else (some ((⟨#[]⟩ : ByteArray), (⟨#[]⟩ : ByteArray), 130)))
theorem addr_Parse.mono : ∀ a0 k, LeO (addr_Parse.f k a0) (addr_Parse.f (k + 1) a0) := by
  intro a0 k
  unfold addr_Parse.f
  repeat' first | (with_reducible first | exact addr_Of.mono _ _ | exact lex_Scan.mono _ _ | exact LeO.refl _ | exact LeO.none _ | refine LeO.ite ?_ ?_ | refine LeO.bind ?_ (fun _ => ?_)) | exact addr_Of.mono _ _ | exact lex_Scan.mono _ _ | exact LeO.none _ | refine LeO.ite ?_ ?_ | refine LeO.bind ?_ (fun _ => ?_)
set_option maxHeartbeats 8000000 in
set_option maxRecDepth 100000 in
theorem addr_Parse.calls (k : Nat) (a0 : ByteArray) (r1 : ByteArray) (r2 : ByteArray) (r3 : Int) (w : World) (h : addr_Parse.f k a0 = some (r1, r2, r3)) :
    Calls Tryz.prog 99 #[.string a0] w fun e w' => e = .returned (.tuple #[.agg #[.string r1, .string r2], .int .i64 r3]) ∧ Below w.heap.size w w' := by
 have hu45 := Tryz.underlying45
 have HB := Aside0.mk (Below.refl w.heap.size w)
 unfold addr_Parse.f at h
 have H := h
 clear h
 replace H := Option.bind_eq_some_iff.mp H
 obtain ⟨⟨t331, t332⟩, A20, H⟩ := H
 try dsimp only at H
 have A2 := Aside0.mk A20
 clear A20
 by_cases c3 : t332 = 0
 ·rw [if_pos c3] at H
  have c3b0 := beq_iff_eq.mpr c3
  have c3b1 := bne_eq_false_iff_eq.mpr c3
  clear c3
  replace H := Option.bind_eq_some_iff.mp H
  obtain ⟨⟨t335, t336, t337⟩, A40, H⟩ := H
  try dsimp only at H
  have A4 := Aside0.mk A40
  clear A40
  simp only [Option.some.injEq, Prod.mk.injEq] at H
  obtain ⟨rfl, rfl, rfl⟩ := H
  go_enter Tryz.func99, Tryz.ntmps99
  go_wp2_with (first | ((with_reducible refine gate_dst (N := 2) rfl ?_); refine box_event ?hg (N := 2) ?hd (cs := #[.string (⟨#[]⟩ : ByteArray), .string (⟨#[]⟩ : ByteArray)]) (t := 45) ?hr ?_; (case hd => rfl); (case hg => rfl); (case hr => first | (go_simp; done) | (go_simp; rfl)); intro gb330 hg w5 hbox hb; have BK330 := Aside0.mk (hbox); have GW330 : Aside0 (w.heap.size ≤ gb330) := gw_ hg; have GE330 : Aside0 (w.heap.size ≤ gb330) := gw_ hg; replace HB := Aside0.mk (below_step blw hb); clear hb hbox hg) | ((with_reducible refine gc 142 rfl ?_); refine gl_ (some 8) Tryz.func142 #[.string a0] ?_; (with_reducible refine (lex_Scan.calls k a0 t331 t332 _ A2.out).mono ?_); rintro e w6 ⟨v333, rfl, ho0, hb⟩; refine ⟨_, rfl, ?_⟩; have HO334 := Aside0.mk (Kd.R_lower ho0 (below_size blw)); replace BK330 := Aside0.mk (blk_below (g := gb330) (o := .cells #[.string (⟨#[]⟩ : ByteArray), .string (⟨#[]⟩ : ByteArray)] 45 (0, 0)) (bkw BK330) hb); replace HB := Aside0.mk (below_step blw hb); (try clear hb); (try clear ho0); obtain ⟨Ao7, co7, eo7⟩ := Kd.R_slice HO334.out; subst eo7) | ((with_reducible refine gc 143 rfl ?_); refine gl_ (some 15) Tryz.func143 #[.slice Ao7 t331.length co7] ?_; (with_reducible refine (addr_Of.calls k _ _ t331 t335 t336 t337 _ ?side1 ?side2 A4.out).mono ?_); (case side1 => repeat (first | exact (Kd.R_reads' HO334.out).2.2 | (with_reducible refine Kd.C_alloc ?_ _) | (with_reducible refine Kd.C_drewN ?_ _) | (with_reducible refine Kd.C_drew ?_))); (case side2 => exact (Kd.R_reads' HO334.out).2.1); rintro e w8 ⟨rfl, hb⟩; refine ⟨_, rfl, ?_⟩; replace HO334 := Aside0.mk (Kd.R_below (by (with_reducible repeat (first | apply Kd.R_alloc | apply Kd.R_drewN | apply Kd.R_drew)); exact HO334.out) hb); replace BK330 := Aside0.mk (blk_below (g := gb330) (o := .cells #[.string (⟨#[]⟩ : ByteArray), .string (⟨#[]⟩ : ByteArray)] 45 (0, 0)) (bkw BK330) hb); replace HB := Aside0.mk (below_step blw hb); (try clear hb); have hcz9_0 : w8.cell? ⟨gb330, 0, none⟩ = some (.string (⟨#[]⟩ : ByteArray)) := bk_ BK330; have hcz9_1 : w8.cell? ⟨gb330, 1, none⟩ = some (.string (⟨#[]⟩ : ByteArray)) := bk_ BK330; have hfz9_0 := blk_frozen BK330.out 0; have hfz9_1 := blk_frozen BK330.out 1))
  refine bodyPost_ret (results_ct rfl _ _ gb330 45 #[.string t335, .string t336] (0, 0) _ rfl (by (with_reducible repeat (first | refine blk_drewN ?_ _ | refine blk_drew ?_ | refine blk_alloc ?_ _)); refine blk_put (cs := #[.string t335, .string (⟨#[]⟩ : ByteArray)]) ?_ 1 _ rfl; (with_reducible repeat (first | refine blk_drewN ?_ _ | refine blk_drew ?_ | refine blk_alloc ?_ _)); refine blk_put (cs := #[.string (⟨#[]⟩ : ByteArray), .string (⟨#[]⟩ : ByteArray)]) ?_ 0 _ rfl; (with_reducible repeat (first | refine blk_drewN ?_ _ | refine blk_drew ?_ | refine blk_alloc ?_ _)); exact BK330.out) Tryz.underlying45 rfl (by kernel_rfl)) rfl ?_
  exact ⟨by first | rfl | (simp [errW_none, errW_some] <;> rfl) | (simp [*, errW_none, errW_some] <;> rfl), blw⟩
 ·rw [if_neg c3] at H
  have c3b0 := beq_eq_false_iff_ne.mpr c3
  have c3b1 := bne_iff_ne.mpr c3
  simp only [Option.some.injEq, Prod.mk.injEq] at H
  obtain ⟨rfl, rfl, rfl⟩ := H
  go_enter Tryz.func99, Tryz.ntmps99
  go_wp2_with (first | ((with_reducible refine gate_dst (N := 2) rfl ?_); refine box_event ?hg (N := 2) ?hd (cs := #[.string (⟨#[]⟩ : ByteArray), .string (⟨#[]⟩ : ByteArray)]) (t := 45) ?hr ?_; (case hd => rfl); (case hg => rfl); (case hr => first | (go_simp; done) | (go_simp; rfl)); intro gb330 hg w10 hbox hb; have BK330 := Aside0.mk (hbox); have GW330 : Aside0 (w.heap.size ≤ gb330) := gw_ hg; have GE330 : Aside0 (w.heap.size ≤ gb330) := gw_ hg; replace HB := Aside0.mk (below_step blw hb); clear hb hbox hg) | ((with_reducible refine gc 142 rfl ?_); refine gl_ (some 8) Tryz.func142 #[.string a0] ?_; (with_reducible refine (lex_Scan.calls k a0 t331 t332 _ A2.out).mono ?_); rintro e w11 ⟨v333, rfl, ho0, hb⟩; refine ⟨_, rfl, ?_⟩; have HO334 := Aside0.mk (Kd.R_lower ho0 (below_size blw)); replace BK330 := Aside0.mk (blk_below (g := gb330) (o := .cells #[.string (⟨#[]⟩ : ByteArray), .string (⟨#[]⟩ : ByteArray)] 45 (0, 0)) (bkw BK330) hb); replace HB := Aside0.mk (below_step blw hb); (try clear hb); (try clear ho0); have hcz12_0 : w11.cell? ⟨gb330, 0, none⟩ = some (.string (⟨#[]⟩ : ByteArray)) := bk_ BK330; have hcz12_1 : w11.cell? ⟨gb330, 1, none⟩ = some (.string (⟨#[]⟩ : ByteArray)) := bk_ BK330; have hfz12_0 := blk_frozen BK330.out 0; have hfz12_1 := blk_frozen BK330.out 1))
  refine bodyPost_ret (results_ct rfl _ _ gb330 45 #[.string (⟨#[]⟩ : ByteArray), .string (⟨#[]⟩ : ByteArray)] (0, 0) _ rfl (by (with_reducible repeat (first | refine blk_drewN ?_ _ | refine blk_drew ?_ | refine blk_alloc ?_ _)); refine blk_put (cs := #[.string (⟨#[]⟩ : ByteArray), .string (⟨#[]⟩ : ByteArray)]) ?_ 1 _ rfl; (with_reducible repeat (first | refine blk_drewN ?_ _ | refine blk_drew ?_ | refine blk_alloc ?_ _)); refine blk_put (cs := #[.string (⟨#[]⟩ : ByteArray), .string (⟨#[]⟩ : ByteArray)]) ?_ 0 _ rfl; (with_reducible repeat (first | refine blk_drewN ?_ _ | refine blk_drew ?_ | refine blk_alloc ?_ _)); exact BK330.out) Tryz.underlying45 rfl (by kernel_rfl)) rfl ?_
  exact ⟨by first | rfl | (simp [errW_none, errW_some] <;> rfl) | (simp [*, errW_none, errW_some] <;> rfl), blw⟩
/-! ### roster_Mode: function 100 -/
def roster_Mode.l0 : Nat → ByteArray → Int → Option (Int)
  | 0, _, _ => none
  | k + 1, x0, x3 => if x3 ≤ 3 then ((roster_Word.f x3).bind fun t338 => (if t338.toList = x0.toList then (some x3) else (roster_Mode.l0 k x0 (wrap64 (x3 + 1))))) else (some 0)
def roster_Mode.f (k : Nat) (a0 : ByteArray) : Option (Int) := roster_Mode.l0 k a0 1
theorem roster_Mode.mono_l : ∀ k, (∀ y0 y1, LeO (roster_Mode.l0 k y0 y1) (roster_Mode.l0 (k + 1) y0 y1))
  | 0 => fun _ _ r h => by simp [roster_Mode.l0] at h
  | k + 1 => by
    have ih0 := roster_Mode.mono_l k
    · intro y0 y1
      unfold roster_Mode.l0
      repeat' first | (with_reducible first | exact ih0 _ _ | exact LeO.refl _ | exact LeO.none _ | refine LeO.ite ?_ ?_ | refine LeO.bind ?_ (fun _ => ?_)) | exact ih0 _ _ | exact LeO.none _ | refine LeO.ite ?_ ?_ | refine LeO.bind ?_ (fun _ => ?_)
theorem roster_Mode.mono : ∀ a0 k, LeO (roster_Mode.f k a0) (roster_Mode.f (k + 1) a0) := by
  intro a0 k
  have ih0 := roster_Mode.mono_l k
  unfold roster_Mode.f
  repeat' first | (with_reducible first | exact ih0 _ _ | exact LeO.refl _ | exact LeO.none _ | refine LeO.ite ?_ ?_ | refine LeO.bind ?_ (fun _ => ?_)) | exact ih0 _ _ | exact LeO.none _ | refine LeO.ite ?_ ?_ | refine LeO.bind ?_ (fun _ => ?_)
set_option maxHeartbeats 8000000 in
set_option maxRecDepth 100000 in
theorem roster_Mode.calls (k : Nat) (a0 : ByteArray) (r : Int) (w : World) (h : roster_Mode.f k a0 = some r) :
    Calls Tryz.prog 100 #[.string a0] w fun e w' => e = .returned (.int .i64 r) ∧ Drawn0 w w' := by
 unfold roster_Mode.f at h
 have H := h
 clear h
 have H' := Aside0.mk H
 clear H
 go_enter Tryz.func100, Tryz.ntmps100
 go_wp2
 go_loopg [3] k (fun kq v3 w' => ∃ (x3_1 : Int), v3 = .int .i64 x3_1 ∧ Aside0 (roster_Mode.l0 kq a0 x3_1 = some r) ∧ Aside0 (kq ≤ k) ∧ Drawn0 w w')
 case atStart => exact ⟨(1), eqs, H', ⟨Nat.le_refl _⟩, drw⟩
 case round =>
  clear H'
  try clear c1
  obtain ⟨x3_1, rfl, HA, HK1, ⟨m1, rfl⟩⟩ := hrel
  cases gk with
  | zero => exact absurd HA.out (by simp [roster_Mode.l0])
  | succ k1 =>
   have H := HA.out
   clear HA
   simp only [roster_Mode.l0] at H
   by_cases c2 : x3_1 ≤ 3
   ·rw [if_pos c2] at H
    have c2b0 := decide_eq_true c2
    clear c2
    replace H := Option.bind_eq_some_iff.mp H
    obtain ⟨t338, A30, H⟩ := H
    try dsimp only at H
    have A3 := Aside0.mk A30
    clear A30
    by_cases c4 : t338.toList = a0.toList
    ·rw [if_pos c4] at H
     have c4b0 := beq_iff_eq.mpr c4
     have c4b1 := bne_eq_false_iff_eq.mpr c4
     clear c4
     obtain rfl := Option.some.inj H
     go_wp2_with (first | ((with_reducible refine gc 118 rfl ?_); refine cl_ (some 9) Tryz.func118 (roster_Word.calls x3_1 t338 _ A3.out) ?_; rintro w' ⟨nd, rfl⟩))
     go_ret
     exact ⟨eqs, drw⟩
    ·rw [if_neg c4] at H
     have c4b0 := beq_eq_false_iff_ne.mpr c4
     have c4b1 := bne_iff_ne.mpr c4
     have H' := Aside0.mk H
     clear H
     go_wp2_with (first | ((with_reducible refine gc 118 rfl ?_); refine cl_ (some 9) Tryz.func118 (roster_Word.calls x3_1 t338 _ A3.out) ?_; rintro w' ⟨nd, rfl⟩))
     go_roundg k1
     case measure => have := HK1.out; omega
     case rel => exact ⟨(wrap64 (x3_1 + 1)), eqs, H', ⟨by have := HK1.out; omega⟩, drw⟩
   ·rw [if_neg c2] at H
    have c2b0 := decide_eq_false c2
    clear c2
    obtain rfl := Option.some.inj H
    go_wp2
    go_ret
    exact ⟨eqs, drw⟩
end Go.Proofs.YtpniccllpfonfaaGreatDoor.Q
