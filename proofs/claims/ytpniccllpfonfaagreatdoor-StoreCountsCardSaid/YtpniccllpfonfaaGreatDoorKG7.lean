-- Texts of this session put together by a program of it (wip/pack.py).
import Derived.Test.YtpniccllpfonfaaGreatDoorKMd
import Derived.Test.YtpniccllpfonfaaGreatDoorKG4
import Derived.Test.YtpniccllpfonfaaGreatDoorKG6
namespace Go.Proofs.YtpniccllpfonfaaGreatDoor.St
open Go Go.RowKit Go.Sort Go.Proofs.YtpniccllpfonfaaGreatDoorW.PrintWords Go.Proofs.YtpniccllpfonfaaGreatDoor.Wd Go.Proofs.YtpniccllpfonfaaGreatDoor.Q
section
variable {w0 w w' : World} {gt gs gw gd gb N Z h p q : Nat} {vl vr vb : Value} {l : List Pr} {cs : List Ch} {e : Int}
theorem get_see (X : TxI w0 w gt gs gw gd gb N Z vl vr vb h p q l cs e) (hl : l.length < 1000000) {key s : ByteArray} (hs : see cs l key = (s, true)) : Calls Tryz.prog 14 #[.pointer (some ⟨gt, 0, none⟩), .string key] w fun e w' => e = .returned (.tuple #[.string s, .bool true]) ∧ Below w.heap.size w w' := by
  have := tget_any X hl key
  rw [hs] at this
  exact this
set_option maxRecDepth 100000 in
set_option maxHeartbeats 8000000 in
theorem tmember_ok (hA : Amb w0) (X : TxI w0 w gt gs gw gd gb N Z vl vr vb h p q l cs e) (hl : l.length < 1000000) {k : Nat} {list lo dom ml ky s : ByteArray} {m : Mb} {nd : Bool} {r : List ByteArray} {t wd : ByteArray} (hml : store_members.f list = some ml) (hky : addr_Addr_Key.f k lo dom = some ky) (hsz : ml.size + ky.size ≤ 9223372036854775807) (hsee : see cs l (ml ++ ky) = (s, true)) (H : Reads k s m nd r t wd) :
    Calls Tryz.prog 18 #[.pointer (some ⟨gt, 0, none⟩), .string list, .agg #[.string lo, .string dom]] w fun en w' => en = .returned (.tuple #[.agg (mbCells m), .bool true]) ∧ Below w.heap.size w w' := by
  obtain ⟨W1, hW1⟩ : ∃ W1, W1 = w.alloc (.cells #[.string lo, .string dom] 45 (0, 0)) := ⟨_, rfl⟩
  have b1 : Below w.heap.size w W1 := by rw [hW1]; exact below_alloc (Below.refl _ _) _
  have bx : W1.heap[w.heap.size]? = some (.cells #[.string lo, .string dom] 45 (0, 0)) := by rw [hW1]; exact heap_alloc_new w _
  have s1 : W1.heap.size = w.heap.size + 1 := by rw [hW1, size_alloc]
  obtain ⟨W2, hW2⟩ : ∃ W2, W2 = W1.alloc (.cells #[.string ⟨#[]⟩, .string ⟨#[]⟩, .int .i64 0, .bool false, .int .i64 0, .int .i64 0, .int .i64 0, .int .i64 0] 47 (0, 0)) := ⟨_, rfl⟩
  have b2 : Below W1.heap.size W1 W2 := by rw [hW2]; exact below_alloc (Below.refl _ _) _
  have n2 : W2.heap[W1.heap.size]? = some (.cells #[.string ⟨#[]⟩, .string ⟨#[]⟩, .int .i64 0, .bool false, .int .i64 0, .int .i64 0, .int .i64 0, .int .i64 0] 47 (0, 0)) := by rw [hW2]; exact heap_alloc_new W1 _
  have bx2 : W2.heap[w.heap.size]? = some (.cells #[.string lo, .string dom] 45 (0, 0)) := (b2.block _ (by omega)).trans bx
  have b12 : Below w.heap.size w W2 := b1.trans (b2.mono (by omega))
  have k0 := cell_regrown (show W2.cell? ⟨w.heap.size, 0, none⟩ = some (.string lo) from blk_cell bx2 0)
  have k1 := cell_regrown (show W2.cell? ⟨w.heap.size, 1, none⟩ = some (.string dom) from blk_cell bx2 1)
  have cM := fun d os => Calls.regrown_of (d := d) (os := os) (calls_below (store_members.calls list ml (grow (redrawn W2 d) os) hml))
  have cK := fun d os => Calls.regrown_of (d := d) (os := os) (addr_Addr_Key.calls k lo dom ky (grow (redrawn W2 d) os) hky)
  have cG := fun d os => Calls.regrown_of (d := d) (os := os) (get_see ((X.ofBelow b12).ofBelow (below_regrown W2 d os)) hl hsee)
  have hq1 : ¬ 9223372036854775807 < ml.size + ky.size := by omega
  have XX := Lib.hid (X.ofBelow b12)
  have HH := Lib.hid H
  have HS := Lib.hid hsee
  have S1 := Lib.hid s1
  clear bx bx2 H hsee hml hky s1
  have mixed : Tryz.prog.follows Departure.mixedOrders = true := by kernel_rfl
  go_enter Tryz.func18, Tryz.ntmps18
  go_wp2_with (fail)
  rw [← hW1, ← hW2]
  clear hW1 hW2
  refine wp_region_quiet_below mixed (by kernel_rfl) ?_
  repeat (quiet_step (first | exact cM _ _ | exact cK _ _ | exact cG _ _))
  refine wpQuiet_nil ?_
  intro _ hw'
  obtain ⟨⟨dq, osq⟩, hw''⟩ := hw'
  subst hw''
  have b4 := below_regrown W2 dq osq
  obtain ⟨w4, hw4⟩ : ∃ w4, w4 = grow (redrawn W2 dq) osq := ⟨_, rfl⟩
  rw [← hw4] at b4 ⊢
  clear hw4 k0 k1 cM cK cG
  have s2 := b2.size
  have n4 : w4.heap[w.heap.size + 1]? = some (.cells #[.string ⟨#[]⟩, .string ⟨#[]⟩, .int .i64 0, .bool false, .int .i64 0, .int .i64 0, .int .i64 0, .int .i64 0] 47 (0, 0)) := by
    rw [← S1.out]
    exact (b4.block _ (Array.getElem?_eq_some_iff.1 n2).1).trans n2
  have hread : ∀ W, Below W2.heap.size W2 W → Calls Tryz.prog 55 #[.string s] W fun e w' => e = .returned (.tuple #[.agg (mbCells m), .int .i64 0]) ∧ Below W.heap.size W w' := fun W hb => read_ok ((XX.out.ofBelow hb).amb hA) HH.out
  clear n2
  go_wp2_with (fail)
  have s4 := b4.size
  (go_at_call 55; (with_reducible refine (hread _ b4).mono ?_); rintro e w5 ⟨rfl, b5⟩)
  have s5 := b5.size
  have n5 := (b5.block _ (Array.getElem?_eq_some_iff.1 n4).1).trans n4
  have b25 : Below w.heap.size w w5 := (b12.trans (b4.mono b12.size)).trans (b5.mono (Nat.le_trans b12.size s4))
  have hs1 : w.heap.size + 1 < w5.heap.size := (Array.getElem?_eq_some_iff.1 n5).1
  clear n4 b4 hread
  simp only [mbCells]
  go_upto_region 5 with (fail)
  obtain ⟨W6, hW6⟩ : ∃ W6, W6 = w5.alloc (.cells #[.string m.loc, .string m.dom, .int .i64 m.mode, .bool m.off, .int .i64 m.score, .int .i64 m.day, .int .i64 m.ticket, .int .i64 m.since] 47 (0, 0)) := ⟨_, rfl⟩
  have b6 : Below w5.heap.size w5 W6 := by rw [hW6]; exact below_alloc (Below.refl _ _) _
  have n6 : W6.heap[w.heap.size + 1]? = some (.cells #[.string ⟨#[]⟩, .string ⟨#[]⟩, .int .i64 0, .bool false, .int .i64 0, .int .i64 0, .int .i64 0, .int .i64 0] 47 (0, 0)) := (b6.block _ hs1).trans n5
  have m6 : W6.heap[w5.heap.size]? = some (.cells #[.string m.loc, .string m.dom, .int .i64 m.mode, .bool m.off, .int .i64 m.score, .int .i64 m.day, .int .i64 m.ticket, .int .i64 m.since] 47 (0, 0)) := by rw [hW6]; exact heap_alloc_new w5 _
  rw [← hW6]
  clear hW6
  have b26 : Below w.heap.size w W6 := b25.trans (b6.mono b25.size)
  obtain ⟨⟨x0, x1, x2, x3, x4, x5, x6, x7⟩, y0, y1, y2, y3, y4, y5, y6, y7⟩ := eight n6
  obtain ⟨⟨u0, u1, u2, u3, u4, u5, u6, u7⟩, -⟩ := eight m6
  have hne : w.heap.size + 1 ≠ w5.heap.size := by omega
  clear n5 b5 b6 m6 b25
  go_wp2_with (fail)
  refine bodyPost_ret (results_ct rfl _ _ (w.heap.size + 1) 47 (mbCells m) (0, 0) _ rfl (set8_heap n6) Tryz.underlying47 rfl (by kernel_rfl)) rfl ?_
  exact ⟨rfl, below_set8 b26 (by omega)⟩
end
end Go.Proofs.YtpniccllpfonfaaGreatDoor.St
namespace Go.Proofs.YtpniccllpfonfaaGreatDoor.St
open Go Go.RowKit Go.Sort Go.Proofs.YtpniccllpfonfaaGreatDoorW.PrintWords Go.Proofs.YtpniccllpfonfaaGreatDoor.Wd Go.Proofs.YtpniccllpfonfaaGreatDoor.Q
abbrev exA : ByteArray := ⟨#[97]⟩
abbrev exDev : ByteArray := ⟨#[100, 101, 118]⟩
abbrev exC1 : Ch := ⟨⟨#[110, 47, 97]⟩, ⟨#[49]⟩, false⟩
abbrev exC2 : Ch := ⟨⟨#[110, 47, 97]⟩, ⟨#[50]⟩, false⟩
abbrev exPre : ByteArray := ⟨#[109, 47, 100, 101, 118, 47]⟩
abbrev exAdr : ByteArray := ⟨#[120, 64, 98]⟩
abbrev exEach : ByteArray := ⟨#[101, 97, 99, 104]⟩
/-- 3:x@b,4:each,2:no,1:0,2:-1,1:1,1:2,0:, -/
abbrev exRow : ByteArray := ⟨#[51, 58, 120, 64, 98, 44, 52, 58, 101, 97, 99, 104, 44, 50, 58, 110, 111, 44, 49, 58, 48, 44, 50, 58, 45, 49, 44, 49, 58, 49, 44, 49, 58, 50, 44, 48, 58, 44]⟩
abbrev exM : Ch := ⟨⟨#[109, 47, 100, 101, 118, 47, 120, 64, 98]⟩, exRow, false⟩
abbrev exMb : Mb := ⟨⟨#[120]⟩, ⟨#[98]⟩, 1, false, 0, -1, 1, 2⟩
theorem ex_ctr : ctrKey exA = ⟨#[110, 47, 97]⟩ := by kernel_rfl
theorem ex_i1 : (⟨(Lib.itoa (0 + 1)).toArray⟩ : ByteArray) = ⟨#[49]⟩ := by kernel_rfl
theorem ex_i2 : (⟨(Lib.itoa (1 + 1)).toArray⟩ : ByteArray) = ⟨#[50]⟩ := by kernel_rfl
theorem ex_mk : exPre ++ exAdr = ⟨#[109, 47, 100, 101, 118, 47, 120, 64, 98]⟩ := by kernel_rfl
theorem ex_fig0 : store_figure.f 40 (see [] [] (ctrKey exA)).1 = some 0 := by
  have e : (see [] [] (ctrKey exA)).1 = ⟨#[]⟩ := by
    rw [ex_ctr]
    simp [see, getC, getP, thereC, thereP, place, keysC, keys]
  exact (congrArg (store_figure.f 40) e).trans (show store_figure.f 40 ⟨#[]⟩ = some 0 by kernel_rfl)
theorem ex_fig1 : store_figure.f 40 (see [exC1] [] (ctrKey exA)).1 = some 1 := by
  have e : see [exC1] [] (ctrKey exA) = (⟨#[49]⟩, true) := by
    rw [ex_ctr]
    simp [see, getC, thereC, place, keysC]
  exact (congrArg (fun x => store_figure.f 40 x.1) e).trans (show store_figure.f 40 ⟨#[49]⟩ = some 1 by kernel_rfl)
theorem ex_chg1 : chg [] ⟨ctrKey exA, ⟨(Lib.itoa (0 + 1)).toArray⟩, false⟩ = (0, [exC1]) := by
  rw [ex_ctr, ex_i1]
  simp [chg, fitsC, thereC, place, keysC, insAt, ByteArray.size]
theorem ex_chg2 : chg [exC1] ⟨ctrKey exA, ⟨(Lib.itoa (1 + 1)).toArray⟩, false⟩ = (0, [exC2]) := by
  rw [ex_ctr, ex_i2]
  simp [chg, fitsC, thereC, place, keysC, ByteArray.size]
theorem ex_lt : (⟨#[109, 47, 100, 101, 118, 47, 120, 64, 98]⟩ : ByteArray).toList < (⟨#[110, 47, 97]⟩ : ByteArray).toList := by
  rw [ByteArray.toList_eq, ByteArray.toList_eq]
  decide
theorem ex_ge : ¬ (⟨#[110, 47, 97]⟩ : ByteArray).toList < (⟨#[109, 47, 100, 101, 118, 47, 120, 64, 98]⟩ : ByteArray).toList := by
  rw [ByteArray.toList_eq, ByteArray.toList_eq]
  decide
theorem ex_chg3 : chg [exC2] ⟨exPre ++ exAdr, exRow, false⟩ = (0, [exM, exC2]) := by
  rw [ex_mk]
  have hg := ex_ge
  have hf : fitsC exM = 0 := by decide
  have hp : place (keysC [exC2]) ⟨#[109, 47, 100, 101, 118, 47, 120, 64, 98]⟩ = 0 := by
    show (List.takeWhile (fun k : ByteArray => decide (k.toList < (⟨#[109, 47, 100, 101, 118, 47, 120, 64, 98]⟩ : ByteArray).toList)) [⟨#[110, 47, 97]⟩]).length = 0
    rw [List.takeWhile_cons, if_neg (by rw [decide_eq_true_iff]; exact hg)]
    rfl
  have ht : thereC [exC2] ⟨#[109, 47, 100, 101, 118, 47, 120, 64, 98]⟩ = false := by
    rw [thereC, hp]
    simp [keysC]
  show chg [exC2] exM = _
  rw [chg, if_neg (by rw [hf]; decide), if_neg (by rw [ht]; decide), if_neg (by decide), hp]
  rfl
theorem ex_see : see [exM, exC2] [] (exPre ++ exAdr) = (exRow, true) := by
  rw [ex_mk]
  simp [see, getC, thereC, place, keysC]
theorem ex_row : (⟨(rowL (rowM exMb exAdr exEach)).toArray⟩ : ByteArray) = exRow := by kernel_rfl
theorem ex_keeps : Keeps 40 exDev exMb exPre exAdr exAdr exEach := by
  constructor <;> first | kernel_rfl | decide | (unfold I64; decide) | exact ⟨by kernel_rfl, by kernel_rfl, .inr rfl, by kernel_rfl, by kernel_rfl⟩ | decide +kernel
theorem ex_reads : Reads 40 exRow exMb false [exAdr, exEach, ⟨#[110, 111]⟩, ⟨#[48]⟩, ⟨#[45, 49]⟩, ⟨#[49]⟩, ⟨#[50]⟩, ⟨#[]⟩] exAdr exEach := by
  constructor <;> first | kernel_rfl | decide | (unfold I64; decide) | exact ⟨by kernel_rfl, by kernel_rfl, .inr rfl, by kernel_rfl, by kernel_rfl⟩ | decide +kernel
theorem ex_key : keyOf 258 = ⟨#[48, 48, 48, 48, 48, 48, 48, 48, 48, 48, 48, 48, 48, 49, 48, 50]⟩ := by kernel_rfl
end Go.Proofs.YtpniccllpfonfaaGreatDoor.St
namespace Go.Proofs.YtpniccllpfonfaaGreatDoor.St
open Go Go.RowKit Go.Sort Go.Proofs.YtpniccllpfonfaaGreatDoorW.PrintWords Go.Proofs.YtpniccllpfonfaaGreatDoor.Wd Go.Proofs.YtpniccllpfonfaaGreatDoor.Q
theorem eqMb (w : World) : (binOp .eql 47 (.agg #[.string ⟨#[120]⟩, .string ⟨#[98]⟩, .int .i64 1, .bool false, .int .i64 0, .int .i64 (-1), .int .i64 1, .int .i64 2]) (.agg #[.string ⟨#[120]⟩, .string ⟨#[98]⟩, .int .i64 1, .bool false, .int .i64 0, .int .i64 (-1), .int .i64 1, .int .i64 2])).run Tryz.prog w = .ok (.bool true) w := by
  kernel_rfl
theorem fldMb (w : World) : (Instr.field 47 (.agg #[.string ⟨#[88]⟩, .string ⟨#[98]⟩, .int .i64 1, .bool false, .int .i64 0, .int .i64 (-1), .int .i64 1, .int .i64 2]) 0).run Tryz.prog w = .ok (.agg #[.string ⟨#[88]⟩, .string ⟨#[98]⟩]) w := by
  kernel_rfl
theorem ex_pairs : commitL [] [exM, exC2] = [⟨exM.key, exM.val⟩, ⟨exC2.key, exC2.val⟩] := by
  have hg := ex_lt
  have hp : place (keys [⟨exM.key, exM.val⟩]) exC2.key = 1 := by
    show (List.takeWhile (fun k : ByteArray => decide (k.toList < (⟨#[110, 47, 97]⟩ : ByteArray).toList)) [⟨#[109, 47, 100, 101, 118, 47, 120, 64, 98]⟩]).length = 1
    rw [List.takeWhile_cons, if_pos (by rw [decide_eq_true_iff]; exact hg)]
    rfl
  have ht : thereP [⟨exM.key, exM.val⟩] exC2.key = false := by
    rw [thereP, hp]
    simp [keys]
  have h1 : doneL [] exM = [⟨exM.key, exM.val⟩] := by simp [doneL, thereP, place, keys, insAt]
  show doneL (doneL [] exM) exC2 = _
  rw [h1, doneL, if_neg (by decide), ht, if_neg (by decide), hp]
  rfl
theorem ex_com : (commitL [] [exM, exC2]).length = 2 := by rw [ex_pairs]; rfl
theorem ex_used : usedL (commitL [] [exM, exC2]) ≤ 1073741824 := by
  rw [ex_pairs]
  decide
theorem ex_row2 : (rowL ([exM, exC2].map textC)).length ≤ 1000 := by decide +kernel
theorem TxI.far {w0 w : World} {gt gs gw gd gb N Z h p q : Nat} {vl vr vb : Value} {l : List Pr} {cs : List Ch} {e : Int} (X : TxI w0 w gt gs gw gd gb N Z vl vr vb h p q l cs e) {k : Nat} (hk : TyIn w [47] k) : ¬ (TxS gt gb vb k ∨ KvS gs gw gd vl vr k) := by
  rintro ((h | h) | h)
  · exact hk.ne (h ▸ X.tyT) (by decide)
  · exact hk.ne (X.bt.ty k h) (by decide)
  · exact hk.ne (X.kv.ty k h) (by decide)
section
variable {w : World}
set_option maxRecDepth 100000 in
set_option maxHeartbeats 8000000 in
theorem works_ok (hA : Amb w) : Calls Tryz.prog 9 #[] w fun e w' => e = .returned (.bool true) ∧ Below w.heap.size w w' := by
  have hworld := world_nil (w := w)
  have hn1 : ∀ W gt gs gw gd gb vl vr vb, TxI w W gt gs gw gd gb 4096 256 vl vr vb 0 0 1073741824 [] [] 0 → Calls Tryz.prog 12 #[.pointer (some ⟨gt, 0, none⟩), .string ⟨#[97]⟩] W fun en w' => ∃ vb', en = .returned (.int .i64 1) ∧ TxI w w' gt gs gw gd gb 4096 256 vl vr vb' 0 0 1073741824 [] [exC1] 0 := fun W gt gs gw gd gb vl vr vb X => by
    have := tnext_any hA X rfl (by decide) exA (by decide) 40 0 ex_fig0 (by decide) (by decide)
    rw [ex_chg1] at this
    refine this.mono ?_
    rintro en w' ⟨vb', rfl, X', _⟩
    exact ⟨vb', rfl, X'⟩
  have hn2 : ∀ W gt gs gw gd gb vl vr vb, TxI w W gt gs gw gd gb 4096 256 vl vr vb 0 0 1073741824 [] [exC1] 0 → Calls Tryz.prog 12 #[.pointer (some ⟨gt, 0, none⟩), .string ⟨#[97]⟩] W fun en w' => ∃ vb', en = .returned (.int .i64 2) ∧ TxI w w' gt gs gw gd gb 4096 256 vl vr vb' 0 0 1073741824 [] [exC2] 0 := fun W gt gs gw gd gb vl vr vb X => by
    have := tnext_any hA X rfl (by decide) exA (by decide) 40 1 ex_fig1 (by decide) (by decide)
    rw [ex_chg2] at this
    refine this.mono ?_
    rintro en w' ⟨vb', rfl, X', _⟩
    exact ⟨vb', rfl, X'⟩
  have hkp : ∀ W gt gs gw gd gb vl vr vb, TxI w W gt gs gw gd gb 4096 256 vl vr vb 0 0 1073741824 [] [exC2] 0 → Calls Tryz.prog 38 #[.pointer (some ⟨gt, 0, none⟩), .string ⟨#[100, 101, 118]⟩, .agg #[.string ⟨#[120]⟩, .string ⟨#[98]⟩, .int .i64 1, .bool false, .int .i64 0, .int .i64 (-1), .int .i64 1, .int .i64 2]] W fun en w' => ∃ vb', en = .returned (.tuple #[]) ∧ TxI w w' gt gs gw gd gb 4096 256 vl vr vb' 0 0 1073741824 [] [exM, exC2] 0 := fun W gt gs gw gd gb vl vr vb X => by
    have := tkeepm_any hA X rfl ex_keeps
    rw [ex_row, ex_chg3] at this
    refine this.mono ?_
    rintro en w' ⟨vb', rfl, X', _⟩
    exact ⟨vb', rfl, X'⟩
  have hmb : ∀ W gt gs gw gd gb vl vr vb, TxI w W gt gs gw gd gb 4096 256 vl vr vb 0 0 1073741824 [] [exM, exC2] 0 → Calls Tryz.prog 18 #[.pointer (some ⟨gt, 0, none⟩), .string ⟨#[100, 101, 118]⟩, .agg #[.string ⟨#[88]⟩, .string ⟨#[98]⟩]] W fun en w' => en = .returned (.tuple #[.agg #[.string ⟨#[120]⟩, .string ⟨#[98]⟩, .int .i64 1, .bool false, .int .i64 0, .int .i64 (-1), .int .i64 1, .int .i64 2], .bool true]) ∧ Below W.heap.size W w' := fun W gt gs gw gd gb vl vr vb X =>
    tmember_ok hA X (by decide) (ml := exPre) (ky := exAdr) ex_keeps.pre (show addr_Addr_Key.f 40 ⟨#[88]⟩ ⟨#[98]⟩ = some exAdr by kernel_rfl) (by decide) ex_see ex_reads
  have hcm : ∀ (W : World) (gt gs gw gd gb : Nat) (vl vr vb : Value) (m : Nat) (cs : Array Value), TxI w W gt gs gw gd gb 4096 256 vl vr vb 0 0 1073741824 [] [exM, exC2] 0 → W.heap[m]? = some (.cells cs 47 (0, 0)) → Calls Tryz.prog 13 #[.pointer (some ⟨gt, 0, none⟩)] W fun en w' => ∃ vr' p', en = .returned (.int .i64 0) ∧ TxI w w' gt gs gw gd gb 4096 256 vl vr' (.slice none 0 0) 0 p' 1073741824 (commitL [] [exM, exC2]) [] 0 ∧ w'.heap[m]? = some (.cells cs 47 (0, 0)) := fun W gt gs gw gd gb vl vr vb m cs X hm => by
    refine (tcommit_puts X rfl (by decide) (by decide) (fun c hc => ?_) ex_used (by decide) (by have := ex_row2; show 0 + 9 + _ + 1 ≤ half_ 4096 * 256; unfold half_; omega)).mono ?_
    · simp only [List.mem_cons, List.not_mem_nil, or_false] at hc
      rcases hc with rfl | rfl <;> rfl
    · rintro en w' ⟨vr', rfl, X', ht⟩
      exact ⟨vr', _, rfl, X', (ht.block (Array.getElem?_eq_some_iff.1 hm).1 (X.far ⟨_, _, hm, by simp⟩)).trans hm⟩
  have hln : ∀ W gs gw gd vl vr p, Kv w.heap.size W gs gw gd 4096 256 vl vr 0 p 1073741824 (commitL [] [exM, exC2]) → Calls Tryz.prog 40 #[.pointer (some ⟨gs, 0, none⟩)] W fun e w' => e = .returned (.int .i64 2) ∧ w' = W := fun W gs gw gd vl vr p H => by
    have := klen_any H
    rw [ex_com] at this
    exact this
  have hky : ∀ W, Calls Tryz.prog 36 #[.int .i64 258] W fun e w' => e = .returned (.string ⟨#[48, 48, 48, 48, 48, 48, 48, 48, 48, 48, 48, 48, 48, 49, 48, 50]⟩) ∧ Below W.heap.size W w' := fun W => by
    have := key_any (w := W) 258 (by decide)
    rw [ex_key] at this
    exact this
  have hm1 : ∀ W, Calls Tryz.prog 39 #[.string ⟨#[120]⟩] W fun e w' => e = .returned (.agg #[.string ⟨#[120]⟩, .string ⟨#[98]⟩, .int .i64 1, .bool false, .int .i64 0, .int .i64 (-1), .int .i64 1, .int .i64 2]) ∧ Below W.heap.size W w' := fun W =>
    bulletinlaw37_member.calls ⟨#[120]⟩ _ _ _ _ _ _ _ _ W rfl
  have hm2 : ∀ W, Calls Tryz.prog 39 #[.string ⟨#[88]⟩] W fun e w' => e = .returned (.agg #[.string ⟨#[88]⟩, .string ⟨#[98]⟩, .int .i64 1, .bool false, .int .i64 0, .int .i64 (-1), .int .i64 1, .int .i64 2]) ∧ Below W.heap.size W w' := fun W =>
    bulletinlaw37_member.calls ⟨#[88]⟩ _ _ _ _ _ _ _ _ W rfl
  have heq := eqMb
  have hfld := fldMb
  go_enter Tryz.func9, Tryz.ntmps9
  go_wp2_with (first
    | (go_at_call 10; (with_reducible refine hworld.mono ?_); rintro e w1 ⟨gs, gw, gd, vl, rfl, hk, b1⟩)
    | (go_at_call 11; (with_reducible refine (begin_any b1 hk).mono ?_); rintro e w2 ⟨gt, gb, rfl, X2, b2⟩)
    | (go_at_call 12; (with_reducible refine (hn1 _ _ _ _ _ _ _ _ _ X2).mono ?_); rintro e w3 ⟨vb3, rfl, X3⟩)
    | (go_at_call 12; (with_reducible refine (hn2 _ _ _ _ _ _ _ _ _ X3).mono ?_); rintro e w4 ⟨vb4, rfl, X4⟩)
    | (go_at_call 39; (with_reducible refine (hm1 _).mono ?_); rintro e w5 ⟨rfl, b5⟩; have X5 := X4.ofBelow b5)
    | (go_at_call 38; (with_reducible refine (hkp _ _ _ _ _ _ _ _ _ X5).mono ?_); rintro e w6 ⟨vb6, rfl, X6⟩)
    | (go_at_call 39; (with_reducible refine (hm2 _).mono ?_); rintro e w7 ⟨rfl, b7⟩; have X7 := X6.ofBelow b7)
    | (go_at_call 18; (with_reducible refine (hmb _ _ _ _ _ _ _ _ _ X7).mono ?_); rintro e w8 ⟨rfl, b8⟩; have X8 := X7.ofBelow b8))
  clear hn1 hn2 hkp hmb hm2 hworld
  obtain ⟨m, hm⟩ : ∃ m, m = w8.heap.size := ⟨_, rfl⟩
  obtain ⟨W9, hW9⟩ : ∃ W9, W9 = w8.alloc (.cells #[.string ⟨#[120]⟩, .string ⟨#[98]⟩, .int .i64 1, .bool false, .int .i64 0, .int .i64 (-1), .int .i64 1, .int .i64 2] 47 (0, 0)) := ⟨_, rfl⟩
  have n9 : W9.heap[m]? = some (.cells #[.string ⟨#[120]⟩, .string ⟨#[98]⟩, .int .i64 1, .bool false, .int .i64 0, .int .i64 (-1), .int .i64 1, .int .i64 2] 47 (0, 0)) := by rw [hW9, hm]; exact heap_alloc_new w8 _
  have X9 : TxI w W9 gt gs gw gd gb 4096 256 vl (.slice none 0 0) vb6 0 0 1073741824 [] [exM, exC2] 0 := by rw [hW9]; exact X8.ofBelow (below_alloc (Below.refl _ _) _)
  rw [← hW9, ← hm]
  clear hW9 hm X2 X3 X4 X5 X6 X7 X8 b1 b2 b5 b7 b8 hk
  have n9c := fun W (hb : Below W9.heap.size W9 W) => eight ((hb.block m (Array.getElem?_eq_some_iff.1 n9).1).trans n9)
  have HC := Lib.hid n9c
  have HBX : Below W9.heap.size W9 W9 := Below.refl _ _
  obtain ⟨⟨f0, f1, f2, f3, f4, f5, f6, f7⟩, -⟩ := n9c _ HBX
  have HX := Lib.hid X9
  have HN := Lib.hid n9
  clear n9c X9 n9
  go_region_held3 (fun w' => w'.cell? ⟨m, 0, none⟩ = some (.string ⟨#[120]⟩) ∧ w'.cell? ⟨m, 1, none⟩ = some (.string ⟨#[98]⟩) ∧ w'.cell? ⟨m, 2, none⟩ = some (.int .i64 1) ∧ w'.cell? ⟨m, 3, none⟩ = some (.bool false) ∧ w'.cell? ⟨m, 4, none⟩ = some (.int .i64 0) ∧ w'.cell? ⟨m, 5, none⟩ = some (.int .i64 (-1)) ∧ w'.cell? ⟨m, 6, none⟩ = some (.int .i64 1) ∧ w'.cell? ⟨m, 7, none⟩ = some (.int .i64 2)) (go_keep) (first
    | (go_at_call 36; (with_reducible refine (hky _).mono ?_); rintro e w10 ⟨rfl, hb5⟩; replace HBX := below_step HBX (Nat.le_refl _) (by repeat (with_reducible first | exact Below.refl _ _ | apply below_alloc | apply pw_below_drewN | apply below_drew1)) hb5; obtain ⟨⟨f0, f1, f2, f3, f4, f5, f6, f7⟩, -⟩ := HC.out _ HBX)
    | (go_at_call 39; (with_reducible refine (hm1 _).mono ?_); rintro e w11 ⟨rfl, hb5⟩; replace HBX := below_step HBX (Nat.le_refl _) (by repeat (with_reducible first | exact Below.refl _ _ | apply below_alloc | apply pw_below_drewN | apply below_drew1)) hb5; obtain ⟨⟨f0, f1, f2, f3, f4, f5, f6, f7⟩, -⟩ := HC.out _ HBX)
    | (go_at_call 13; (with_reducible refine (hcm _ _ _ _ _ _ _ _ _ m _ (HX.out.ofBelow ?hq1) ((Below.block ?hq1 m (Array.getElem?_eq_some_iff.1 HN.out).1).trans HN.out)).mono ?_); (case hq1 => (refine HBX.trans ?_; (repeat (with_reducible first | exact Below.refl _ _ | apply below_alloc | apply pw_below_drewN | apply below_drew1)))); rintro e w12 ⟨vr12, p12, rfl, X12, n12⟩; obtain ⟨⟨f0, f1, f2, f3, f4, f5, f6, f7⟩, -⟩ := eight n12)
    | (go_at_call 40; (with_reducible refine (hln _ _ _ _ _ _ _ X12.kv).mono ?_); rintro e w13 ⟨rfl, rfl⟩)
    | fail)
  all_goals go_wp2_with (fail)
  all_goals go_ret
  all_goals exact ⟨rfl, X12.low⟩
end
end Go.Proofs.YtpniccllpfonfaaGreatDoor.St
