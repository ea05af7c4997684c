-- Texts of this session put together by a program of it (wip/pack.py).
import Derived.Test.YtpniccllpfonfaaGreatDoorKG9
import Derived.Test.YtpniccllpfonfaaGreatDoorKTs
namespace Go.Proofs.YtpniccllpfonfaaGreatDoor.St
open Go Go.RowKit Go.Proofs.YtpniccllpfonfaaGreatDoorW.PrintWords Go.Proofs.YtpniccllpfonfaaGreatDoor.Wd Go.Proofs.YtpniccllpfonfaaGreatDoor.Q
/-- What is seen of a counter that has told k numbers. -/
def cntV (k : Nat) : ByteArray × Bool := if k = 0 then (⟨#[]⟩, false) else (⟨(Lib.itoa (k : Int)).toArray⟩, true)
theorem cnt_fig : ∀ k : Fin 42, store_figure.f 40 (cntV k.val).1 = some (k.val : Int) := by decide +kernel
theorem cnt_size : ∀ k : Fin 43, (cntV k.val).1.size ≤ 20 := by decide +kernel
structure CI (name other : ByteArray) (k1 k2 : Nat) (l : List Pr) (cs : List Ch) : Prop where
  s1 : see cs l (ctrKey name) = cntV k1
  s2 : see cs l (ctrKey other) = cntV k2
  kc : ∀ c ∈ cs, (c.key = ctrKey name ∨ c.key = ctrKey other) ∧ c.gone = false ∧ c.val.size ≤ 20
  kl : ∀ x ∈ l, (x.key = ctrKey name ∨ x.key = ctrKey other) ∧ x.val.size ≤ 20
theorem CI.swap {name other : ByteArray} {k1 k2 : Nat} {l : List Pr} {cs : List Ch} (H : CI name other k1 k2 l cs) : CI other name k2 k1 l cs :=
  ⟨H.s2, H.s1, fun c hc => ⟨(H.kc c hc).1.symm, (H.kc c hc).2⟩, fun x hx => ⟨(H.kl x hx).1.symm, (H.kl x hx).2⟩⟩
theorem two_keys {α : Type} {f : α → ByteArray} {l : List α} {a b : ByteArray} (hs : Sorted (l.map f)) (h : ∀ x ∈ l, f x = a ∨ f x = b) : l.length ≤ 2 := by
  rcases Nat.lt_or_ge 2 l.length with h3 | h3
  · exfalso
    have hl : (l.map f).length = l.length := List.length_map ..
    have h01 := sorted_lt hs (i := 0) (j := 1) (by omega) (by omega)
    have h12 := sorted_lt hs (i := 1) (j := 2) (by omega) (by omega)
    have h02 := sorted_lt hs (i := 0) (j := 2) (by omega) (by omega)
    simp only [List.getElem_map] at h01 h12 h02
    have e0 := h l[0] (List.getElem_mem _)
    have e1 := h l[1] (List.getElem_mem _)
    have e2 := h l[2] (List.getElem_mem _)
    rcases e0 with e0 | e0 <;> rcases e1 with e1 | e1 <;> rcases e2 with e2 | e2 <;> rw [e0] at h01 h02 <;> rw [e1] at h01 h12 <;> rw [e2] at h12 h02 <;> first | exact lt_irr _ h01 | exact lt_irr _ h12 | exact lt_irr _ h02
  · exact h3
theorem ctr_size (name : ByteArray) : (ctrKey name).size = 2 + name.size := ByteArray.size_append ..
theorem ctr_inj {a b : ByteArray} (h : ctrKey a = ctrKey b) : a = b := by
  have h1 : (ctrKey a).data = (ctrKey b).data := by rw [h]
  have h2 : (#[110, 47] : Array UInt8) ++ a.data = #[110, 47] ++ b.data := by simpa [ctrKey] using h1
  exact ByteArray.ext (Array.append_inj_right h2 rfl)
theorem chg_zero {cs : List Ch} {c : Ch} (h0 : fitsC c = 0) (hf : cs.length < 2000) : (chg cs c).1 = 0 := by
  rw [chg, if_neg (by rw [h0]; decide)]
  split
  · rfl
  · rw [if_neg (by omega)]
theorem ci_next {name other : ByteArray} {k1 k2 : Nat} {l : List Pr} {cs : List Ch} (H : CI name other k1 k2 l cs) (hne : name ≠ other) (hn : name.size ≤ 100) (hk : k1 ≤ 41) (hs : Sorted (keysC cs)) (hs' : Sorted (keysC (chg cs ⟨ctrKey name, (cntV (k1 + 1)).1, false⟩).2)) :
    (chg cs ⟨ctrKey name, (cntV (k1 + 1)).1, false⟩).1 = 0 ∧ CI name other (k1 + 1) k2 l (chg cs ⟨ctrKey name, (cntV (k1 + 1)).1, false⟩).2 ∧ 0 < (chg cs ⟨ctrKey name, (cntV (k1 + 1)).1, false⟩).2.length := by
  have hl : cs.length ≤ 2 := two_keys (f := Ch.key) hs (fun c hc => (H.kc c hc).1)
  have hz := cnt_size ⟨k1 + 1, by omega⟩
  have hsz := ctr_size name
  have h0 : fitsC ⟨ctrKey name, (cntV (k1 + 1)).1, false⟩ = 0 := by
    unfold fitsC
    rw [if_neg (by show ¬ (ctrKey name).size = 0; omega), if_neg (by show ¬ (200 < (ctrKey name).size ∨ 1048576 < (cntV (k1 + 1)).1.size); simp only at hz; omega)]
  refine ⟨chg_zero h0 (by omega), ⟨?_, ?_, fun c hc => ?_, H.kl⟩, List.length_pos_of_mem ((mem_chg hs h0 (by omega)).2 (.inl rfl))⟩
  · rw [see_same (c := ⟨ctrKey name, (cntV (k1 + 1)).1, false⟩) hs hs' h0 (by omega)]
    simp [cntV]
  · rw [see_other hs hs' h0 (by omega) (fun e => hne (ctr_inj e).symm)]
    exact H.s2
  · rcases (mem_chg hs h0 (by omega)).1 hc with rfl | ⟨h1, _⟩
    · exact ⟨.inl rfl, rfl, hz⟩
    · exact H.kc c h1
theorem ci_commit {name other : ByteArray} {k1 k2 : Nat} {l : List Pr} {cs : List Ch} (H : CI name other k1 k2 l cs) (hs : Sorted (keysC cs)) (hl : Sorted (keys l)) (hl' : Sorted (keys (commitL l cs))) : CI name other k1 k2 (commitL l cs) [] := by
  have hg := fun c hc => (H.kc c hc).2.1
  refine ⟨by rw [see_commit hs hg hl hl']; exact H.s1, by rw [see_commit hs hg hl hl']; exact H.s2, fun c hc => (by cases hc), fun x hx => ?_⟩
  rcases (mem_commit hs hg hl).1 hx with ⟨c, hc, rfl⟩ | ⟨h1, _⟩
  · exact ⟨(H.kc c hc).1, (H.kc c hc).2.2⟩
  · exact H.kl x h1
theorem ci_used {name other : ByteArray} {k1 k2 : Nat} {l : List Pr} (H : CI name other k1 k2 l []) (hn : name.size ≤ 100) (ho : other.size ≤ 100) (hl : Sorted (keys l)) : usedL l ≤ 1000 := by
  have h2 : l.length ≤ 2 := two_keys (f := Pr.key) hl (fun x hx => (H.kl x hx).1)
  have hx : ∀ x ∈ l, x.key.size + x.val.size ≤ 130 := fun x hx => by
    have h1 := ctr_size name
    have h3 := ctr_size other
    have h4 := (H.kl x hx).2
    rcases (H.kl x hx).1 with e | e <;> rw [e] <;> omega
  clear H hl
  match l, h2, hx with
  | [], _, _ => simp [usedL]
  | [x], _, hx =>
    have := hx x (by simp)
    simp [usedL]; omega
  | [x, y], _, hx =>
    have := hx x (by simp)
    have := hx y (by simp)
    simp [usedL]; omega
  | _ :: _ :: _ :: _, h2, _ => simp at h2
theorem ci_row {name other : ByteArray} {k1 k2 : Nat} {l : List Pr} {cs : List Ch} (H : CI name other k1 k2 l cs) (hn : name.size ≤ 100) (ho : other.size ≤ 100) (hs : Sorted (keysC cs)) : (rowL (cs.map textC)).length ≤ 2000 := by
  have h2 : cs.length ≤ 2 := two_keys (f := Ch.key) hs (fun c hc => (H.kc c hc).1)
  have hx : ∀ s ∈ cs.map textC, s.size ≤ 400 := fun s hs => by
    obtain ⟨c, hc, rfl⟩ := List.mem_map.1 hs
    have h1 := ctr_size name
    have h3 := ctr_size other
    obtain ⟨hk, hg, hv⟩ := H.kc c hc
    have hks : c.key.size ≤ 102 := by rcases hk with e | e <;> rw [e] <;> omega
    unfold textC
    rw [if_neg (by rw [hg]; decide), size_mk]
    have := rowL_len [⟨#[43]⟩, c.key, c.val] 102 (fun s hs => by
      simp only [List.mem_cons, List.not_mem_nil, or_false] at hs
      rcases hs with rfl | rfl | rfl
      · decide
      · exact hks
      · omega)
    simp only [List.length_cons, List.length_nil] at this
    omega
  have := rowL_len _ 400 hx
  rw [List.length_map] at this
  have h3 : cs.length * (400 + 22) ≤ 2 * 422 := Nat.mul_le_mul_right _ h2
  omega
section
variable {w0 w w' : World} {gt gs gw gd gb N Z h p q : Nat} {vl vr vb : Value} {l : List Pr} {cs : List Ch} {e : Int}
theorem cnext_any (hA : Amb w0) (X : TxI w0 w gt gs gw gd gb N Z vl vr vb h p q l cs 0) {name other : ByteArray} {k1 k2 : Nat} (H : CI name other k1 k2 l cs) (hne : name ≠ other) (hn : name.size ≤ 100) (hk : k1 ≤ 41) (hl : l.length < 1000000) :
    Calls Tryz.prog 12 #[.pointer (some ⟨gt, 0, none⟩), .string name] w fun en w' => ∃ vb' cs', en = .returned (.int .i64 ((k1 + 1 : Nat) : Int)) ∧ TxI w0 w' gt gs gw gd gb N Z vl vr vb' h p q l cs' 0 ∧ CI name other (k1 + 1) k2 l cs' ∧ 0 < cs'.length := by
  have hf := cnt_fig ⟨k1, by omega⟩
  have := tnext_any hA X rfl hl name (by omega) 40 (k1 : Int) (by rw [H.s1]; exact hf) (by omega) (by omega)
  refine this.mono ?_
  rintro en w' ⟨vb', rfl, X', _⟩
  have ev : (⟨(Lib.itoa ((k1 : Int) + 1)).toArray⟩ : ByteArray) = (cntV (k1 + 1)).1 := by simp [cntV]
  rw [ev] at X'
  have h1 := X'.bt.srt
  obtain ⟨h2, h3, h4⟩ := ci_next H hne hn hk X.bt.srt h1
  rw [h2] at X'
  exact ⟨vb', _, by simp, X', h3, h4⟩
end
end Go.Proofs.YtpniccllpfonfaaGreatDoor.St
