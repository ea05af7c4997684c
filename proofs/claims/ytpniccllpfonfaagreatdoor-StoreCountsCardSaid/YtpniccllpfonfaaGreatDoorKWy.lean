-- Texts of this session put together by a program of it (wip/pack.py).
import Derived.Test.YtpniccllpfonfaaGreatDoorKG1
namespace Go.Proofs.YtpniccllpfonfaaGreatDoor.St
open Go Go.RowKit Go.Proofs.YtpniccllpfonfaaGreatDoorW.PrintWords Go.Proofs.YtpniccllpfonfaaGreatDoor.Wd Go.Proofs.YtpniccllpfonfaaGreatDoor.Q
section
variable {B : Nat} {w w' : World} {gw gd N Z n h p : Nat} {vl vc vw : Value} {full : Bool} {ws : List ByteArray}
theorem texts_of_row {a : Option Addr} {c : Nat} (h : w.ownsRow B 9 1 (.slice a ws.length c) ws.length (strs ws)) : Texts w a ws := fun h0 => by
  obtain ⟨g, cur, e, _, _, _, hc⟩ := rowE_at h h0
  refine ⟨g, 0, e, fun i hi => ?_⟩
  rw [Nat.zero_add]
  exact hc i _ (by simp [strs, List.getElem?_map, List.getElem?_eq_getElem hi])
theorem Wl.emptied (H : Wl B w gw gd N Z vl vc vw full n h p ws) : Wl B (w.setCell ⟨gw, 3, none⟩ (.slice none 0 0)) gw gd N Z vl vc (.slice none 0 0) full n h p [] := by
  have tw : Turn w (w.setCell ⟨gw, 3, none⟩ (.slice none 0 0)) (fun k => k = gw) := (Turn.refl w (fun k => k = gw)).setCell (p := ⟨gw, 3, none⟩) (.inl rfl) _
  refine ⟨H.dk.turn tw (fun e => H.out.1 (.inl e.symm)) (fun k hk e => H.out.1 (.inr (.inl (e ▸ hk)))) (fun k hk e => H.out.1 (.inr (.inr (e ▸ hk)))), ?_, H.g0, ⟨rfl, .inl ⟨rfl, rfl⟩⟩, fun k hk => by simp [Value.ownBlock] at hk, H.dim, H.half⟩
  have := blk_set H.blk 3 (.slice none 0 0)
  simpa using this
theorem Wl.moved (H : Wl B w gw gd N Z vl vc vw full n h p ws) (q : Nat) : Wl B (w.setCell ⟨gw, 2, none⟩ (.int .i64 (q : Int))) gw gd N Z vl vc vw full n h q ws := by
  have tw : Turn w (w.setCell ⟨gw, 2, none⟩ (.int .i64 (q : Int))) (fun k => k = gw) := (Turn.refl w (fun k => k = gw)).setCell (p := ⟨gw, 2, none⟩) (.inl rfl) _
  refine ⟨H.dk.turn tw (fun e => H.out.1 (.inl e.symm)) (fun k hk e => H.out.1 (.inr (.inl (e ▸ hk)))) (fun k hk e => H.out.1 (.inr (.inr (e ▸ hk)))), ?_, H.g0, rowE_turn H.wait tw (fun k hk e => H.own_ne k hk e), H.apart, H.dim, H.half⟩
  have := blk_set H.blk 2 (.int .i64 (q : Int))
  simpa using this
set_option maxRecDepth 100000 in
set_option maxHeartbeats 8000000 in
theorem sync_any {m : Nat} (H : Wl B w gw gd N Z vl vc vw false n h p ws) (hB : B ≤ w.heap.size) (hn : n < 100000) (h0 : 0 < ws.length) (hl : ws.length < 1000000) (hm : ∀ s ∈ ws, s.size ≤ m) (hm2 : m < 100000000) (hroom : p + 9 + (rowL ws).length + 1 ≤ half_ N * Z) :
    Calls Tryz.prog 88 #[.pointer (some ⟨gw, 0, none⟩)] w fun e w' => e = .returned (.int .i64 0) ∧ Wl B w' gw gd N Z vl (.slice none 0 0) (.slice none 0 0) false 0 h (p + 9 + (rowL ws).length) [] ∧ Turn w w' (fun k => DkS gd vl vc k ∨ k = gw) := by
  obtain ⟨ac, cc, rfl, _⟩ := sliceE_of H.wait
  have c3 : w.cell? ⟨gw, 3, none⟩ = some (.slice ac ws.length cc) := blk_cell H.blk 3
  have f3 : w.frozen? ⟨gw, 3, none⟩ = false := blk_frozen H.blk 3
  have hd := H.dim
  have hcap := cap_le N Z hd.2.1 hd.2.2.2
  have hz : ¬ (ws.length : Int) = 0 := by omega
  obtain ⟨F, hF⟩ : ∃ F, F = 9 + (rowL ws).length := ⟨_, rfl⟩
  obtain ⟨K, hK⟩ : ∃ K, K = half_ N * Z - p - 1 := ⟨_, rfl⟩
  have hlt : ¬ (K : Int) < (F : Int) := by omega
  have hneed : ∀ w5 : World, w5.ownsRow B 9 1 (.slice ac ws.length cc) ws.length (strs ws) → Calls Tryz.prog 127 #[.slice ac ws.length cc] w5 fun e w' => e = .returned (.int .i64 (F : Int)) ∧ Below w5.heap.size w5 w' := fun w5 hr => by
    rw [hF]
    exact need_any (texts_of_row hr) hl hm hm2 (by omega)
  have hframe : ∀ w5 : World, w5.ownsRow B 9 1 (.slice ac ws.length cc) ws.length (strs ws) → Calls Tryz.prog 130 #[.int .u8 0, .slice ac ws.length cc] w5 fun e w' => ∃ s : ByteArray, e = .returned (.string s) ∧ s.size = F ∧ Below w5.heap.size w5 w' := fun w5 hr => by
    rw [hF]
    exact frame_any (texts_of_row hr) hl hm hm2 (by omega)
  have hroomC : ∀ w5 : World, Wl B w5 gw gd N Z vl vc (.slice none 0 0) false n h p [] → Calls Tryz.prog 128 #[.pointer (some ⟨gw, 0, none⟩)] w5 fun e w' => e = .returned (.int .i64 (K : Int)) ∧ ∃ m, w' = w5.drewN m := fun w5 hr => by
    rw [hK]
    exact room_any hr (by omega)
  have hFp : F < 600000 := by omega
  have hpF : p + F + 1 ≤ half_ N * Z := by omega
  have eF : p + 9 + (rowL ws).length = p + F := by omega
  rw [eF]
  clear eF hF hK hroom
  have H1 := H.emptied
  have tw1 : Turn w (w.setCell ⟨gw, 3, none⟩ (.slice none 0 0)) (fun k => DkS gd vl vc k ∨ k = gw) := (Turn.refl w (fun k => DkS gd vl vc k ∨ k = gw)).setCell (p := ⟨gw, 3, none⟩) (.inl (.inr rfl)) _
  have rw1 : (w.setCell ⟨gw, 3, none⟩ (.slice none 0 0)).ownsRow B 9 1 (.slice ac ws.length cc) ws.length (strs ws) := rowE_of H.wait fun k hk => Below.heap_setCell w ⟨gw, 3, none⟩ _ k (fun e => H.own_ne k hk e)
  have hout := H.out.2
  go_enter Tryz.func88, Tryz.ntmps88
  go_wp2_with (go_at_call 127; (with_reducible refine (hneed _ rw1).mono ?_); rintro e w2 ⟨rfl, hb2⟩)
  (go_at_call 128; (with_reducible refine (hroomC _ (H1.ofBelow hb2)).mono ?_); rintro e w3 ⟨rfl, m3, rfl⟩)
  have b3 : Below (w.setCell ⟨gw, 3, none⟩ (.slice none 0 0)).heap.size (w.setCell ⟨gw, 3, none⟩ (.slice none 0 0)) (w2.drewN m3) := hb2.trans ⟨rfl, rfl, rfl, Nat.le_refl _, fun _ _ => rfl⟩
  have H3 := H1.ofBelow b3
  have r3 := rowE_below rw1 b3
  have t3 : Turn w (w2.drewN m3) (fun k => DkS gd vl vc k ∨ k = gw) := tw1.then_ (Turn.of_below b3 (fun _ => False)) (fun _ h => h.elim)
  obtain ⟨W3, hW3⟩ : ∃ W3, W3 = w2.drewN m3 := ⟨_, rfl⟩
  rw [← hW3] at b3 H3 r3 t3 ⊢
  clear hW3 hb2 H1 rw1 tw1 b3 hroomC f3 c3
  have s3 := t3.size
  have d1 : W3.cell? ⟨gw, 1, none⟩ = some (.int .i64 (h : Int)) := blk_cell H3.blk 1
  have d2 : W3.cell? ⟨gw, 2, none⟩ = some (.int .i64 (p : Int)) := blk_cell H3.blk 2
  have q1 : ¬ 9223372036854775807 < F + 1 := by omega
  go_wp2_with (fail)
  go_region_held3 (fun w' => w'.cell? ⟨gw, 1, none⟩ = some (.int .i64 (h : Int)) ∧ w'.cell? ⟨gw, 2, none⟩ = some (.int .i64 (p : Int))) (go_keep) (first
    | (go_at_call 130; refine (hframe _ (rowE_below r3 ?hb1)).mono ?_; (case hb1 => exact ⟨rfl, rfl, rfl, Nat.le_refl _, fun _ _ => rfl⟩); rintro e w4 ⟨s4, rfl, hs4, hb4⟩; have b4 : Below W3.heap.size W3 w4 := (by refine Below.trans ?_ hb4; exact ⟨rfl, rfl, rfl, Nat.le_refl _, fun _ _ => rfl⟩); have q2 : ¬ 9223372036854775807 < s4.size + 1 := (by omega); have e1 : w4.cell? ⟨gw, 1, none⟩ = some (.int .i64 (h : Int)) := blk_cell (H3.ofBelow b4).blk 1; have e2 : w4.cell? ⟨gw, 2, none⟩ = some (.int .i64 (p : Int)) := blk_cell (H3.ofBelow b4).blk 2)
    | (go_at_call 129; go_must (refine (wflushed_any (H3.ofBelow ?hb2) ?hb3 h p H3.half _ ?hb4 ?hb5).mono ?_); (case hb2 => first | exact Below.trans b4 ⟨rfl, rfl, rfl, Nat.le_refl _, fun _ _ => rfl⟩ | exact ⟨rfl, rfl, rfl, Nat.le_refl _, fun _ _ => rfl⟩); (case hb3 => (have := b4.size; show B ≤ w4.heap.size; omega)); (case hb4 => (rw [ByteArray.size_append, hs4]; show p + (F + 1) ≤ _; omega)); (case hb5 => (rw [ByteArray.size_append, hs4]; show n + (F + 1) < _; omega)); rintro e w5 ⟨rfl, H5, hT5⟩; have e3 : w5.cell? ⟨gw, 1, none⟩ = some (.int .i64 (h : Int)) := blk_cell H5.blk 1; have e4 : w5.cell? ⟨gw, 2, none⟩ = some (.int .i64 (p : Int)) := blk_cell H5.blk 2)
    | fail)
  have t5 : Turn w w5 (fun k => DkS gd vl vc k ∨ k = gw) := (t3.then_ (Turn.of_below b4 (fun _ => False)) (fun _ h => h.elim)).then_ (T := DkS gd vl vc) ⟨hT5.os, hT5.tape, hT5.output, hT5.kept⟩ (fun k hk => .inl (.inl hk))
  have r5 : w5.ownsRow B 9 1 (.slice ac ws.length cc) ws.length (strs ws) := rowE_turn (rowE_below r3 b4) ⟨hT5.os, hT5.tape, hT5.output, hT5.kept⟩ hout
  have s5 := t5.size
  clear q1 q2 e1 e2 d1 d2 hs4 hT5 b4 hb4 H3 r3 t3 s3
  obtain ⟨fa, hfa⟩ : ∃ fa, fa = strOfNums [1] := ⟨_, rfl⟩
  have kall := fun W b h => conv_cell W b 1 fa hfa h
  have hf1 : fa.size = 1 := by rw [hfa, strOfNums_size]; rfl
  clear hfa
  have HF1 := Lib.hid hf1
  clear hf1
  have c51 : ∀ o, (w5.alloc o).cell? ⟨gw, 1, none⟩ = some (.int .i64 (h : Int)) := fun o => (World.cell?_of_block (Below.heap_alloc w5 o gw H5.lt)).trans (blk_cell H5.blk 1)
  have c52 : ∀ o, (w5.alloc o).cell? ⟨gw, 2, none⟩ = some (.int .i64 (p : Int)) := fun o => (World.cell?_of_block (Below.heap_alloc w5 o gw H5.lt)).trans (blk_cell H5.blk 2)
  go_wp2_with (fail)
  go_region_with (first
    | (go_at_call 129; go_must (refine (wflushed_any (H5.ofBelow ?hb6) ?hb7 h p H5.half _ ?hb8 ?hb9).mono ?_); (case hb6 => (repeat (with_reducible first | exact Below.refl _ _ | apply below_alloc | apply pw_below_drewN | apply below_drew1))); (case hb7 => (simp; omega)); (case hb8 => (rw [HF1.out]; omega)); (case hb9 => (rw [HF1.out]; omega)); rintro e w6 ⟨rfl, H6, hT6⟩; have e5 : w6.cell? ⟨gw, 2, none⟩ = some (.int .i64 (p : Int)) := blk_cell H6.blk 2)
    | fail)
  all_goals
    have u6 : Turn w5 w6 (DkS gd vl (.slice none 0 0)) := by
      refine Turn.then_ ?_ hT6 (fun k hk => .inl hk)
      refine Turn.of_below ?_ _
      repeat (with_reducible first | exact Below.refl _ _ | apply below_alloc | apply pw_below_drewN | apply below_drew1)
    have sub6 : ∀ k, DkS gd vl (.slice none 0 0) k → DkS gd vl vc k := fun k hk => by
      rcases hk with e | e | e
      · exact .inl e
      · exact .inr (.inl e)
      · simp [Value.ownBlock] at e
    have r6 : w6.ownsRow B 9 1 (.slice ac ws.length cc) ws.length (strs ws) := rowE_turn r5 u6 (fun k hk hk2 => hout k hk (sub6 k hk2))
    have t6 : Turn w w6 (fun k => DkS gd vl vc k ∨ k = gw) := t5.then_ u6 (fun k hk => .inl (.inl (sub6 k hk)))
    have f6 : w6.frozen? ⟨gw, 2, none⟩ = false := blk_frozen H6.blk 2
    have x1 : IntKind.i64.wrap ((p : Int) + (F : Int)) = ((p + F : Nat) : Int) := by rw [IntKind.wrap_i64]; omega
    clear hT6 u6 sub6 r5 t5 c51 c52 kall HF1 H5
    go_wp2_with (fail)
    go_region_with (first
      | (go_at_call 127; refine (hneed _ (rowE_below r6 ?hb10)).mono ?_; (case hb10 => exact ⟨rfl, rfl, rfl, Nat.le_refl _, fun _ _ => rfl⟩); rintro e w7 ⟨rfl, hb7⟩; have b7 : Below w6.heap.size w6 w7 := (by refine Below.trans ?_ hb7; exact ⟨rfl, rfl, rfl, Nat.le_refl _, fun _ _ => rfl⟩); have e6 : w7.cell? ⟨gw, 2, none⟩ = some (.int .i64 (p : Int)) := blk_cell (H6.ofBelow b7).blk 2; have g7 : w7.frozen? ⟨gw, 2, none⟩ = false := blk_frozen (H6.ofBelow b7).blk 2)
      | fail)
  all_goals go_wp2_with (fail)
  all_goals go_ret
  all_goals
    have M := (H6.ofBelow b7).moved (p + F)
    rw [Int.natCast_add] at M
    have t7 := (t6.then_ (Turn.of_below b7 (fun _ => False)) (fun _ h => h.elim)).setCell (p := ⟨gw, 2, none⟩) (.inl (.inr rfl)) (.int .i64 ((p : Int) + (F : Int)))
    refine ⟨rfl, ?_, ?_⟩
    · first | exact M | exact M.ofBelow ⟨rfl, rfl, rfl, Nat.le_refl _, fun _ _ => rfl⟩
    · first | exact t7 | exact ⟨t7.os, t7.tape, t7.output, t7.kept⟩
end
end Go.Proofs.YtpniccllpfonfaaGreatDoor.St
