-- Texts of this session put together by a program of it (wip/pack.py).
import Derived.Sort.QuietIn
import Derived.Sort.QuietTacIn
import Derived.OwnWalkIn
import Derived.Deep.RegionHeld3
namespace Go.Proofs.YtpniccllpfonfaaGreatDoor.Qr
open Go Go.RowKit
def isDefer : Op → Bool
  | .defer _ => true
  | _ => false
theorem no_defer {o : Oper} (h : isDefer o.op = false) : ∀ c, o.op ≠ Op.defer c := fun c e => by
  rw [e] at h
  cases h
section
variable {F : Fence} {n : Nat} {P : Program} {ops : Array Oper} {C : World → Prop} {md : Region.Mode}
theorem oper_quiet {o : Oper} {a : Act} {K : Act → Prop} {K' : Act → World → Prop} {Q' : Exit → Act → World → Prop} {w : World} (hd : isDefer o.op = false) (hw : C w) (h : ∀ a w', C w' → K a → K' a w') (ha : o.askedIn F P a C) (hh : o.quietIn F n P a C K) : o.wpIn F n P a w K' Q' := by
  obtain ⟨v, h1, h2⟩ := hh
  have h3 : Oper.quietUponIn F n P C w v ((execOp a.eval o).run P w) := h1 w hw
  refine ⟨ha w hw, ?_⟩
  rw [Oper.semAt_plain F _ _ (no_defer hd)]
  revert h3
  generalize (execOp a.eval o).run P w = r
  intro h3
  cases r with
  | halt x w' => simp only [Oper.quietUponIn] at h3
  | ok x w' =>
    cases x
    case value u =>
      simp only [Oper.quietUponIn] at h3
      obtain ⟨rfl, rfl⟩ := h3
      exact h _ _ hw h2
    case skip =>
      simp only [Oper.quietUponIn] at h3
      obtain ⟨rfl, rfl⟩ := h3
      exact h _ _ hw h2
    case enter f args =>
      simp only [Oper.quietUponIn] at h3
      obtain ⟨rfl, hdd, hc⟩ := h3
      exact ⟨hdd, hc.mono fun e w'' ⟨he, hw''⟩ => by subst he; exact h _ _ hw'' h2⟩
    all_goals simp only [Oper.quietUponIn] at h3
theorem op_quiet {i : Nat} {a : Act} {K : Act → Prop} {K' : Act → World → Prop} {Q' : Exit → Act → World → Prop} {w : World} (hd : ∀ o, ops[i]? = some o → isDefer o.op = false) (hC : C w) (h : ∀ a w', C w' → K a → K' a w') (hh : qOpIn F n P ops C i K a) : wpOpIn F n P ops Q' i K' a w := by
  unfold qOpIn at hh
  unfold wpOpIn
  cases ho : ops[i]? with
  | none =>
    simp only [ho] at hh ⊢
    exact h _ _ hC hh
  | some o =>
    simp only [ho] at hh ⊢
    obtain ⟨ha, hh⟩ := hh
    split
    · rename_i hw
      rw [if_pos hw] at hh
      exact oper_quiet (hd o ho) hC h ha hh
    · rename_i hw
      rw [if_neg hw] at hh
      exact ⟨ha w hC, h _ _ hC hh⟩
theorem any_quiet {Q : Act → Prop} {Q' : Exit → Act → World → Prop} (hd : ∀ (i : Nat) (o : Oper), ops[i]? = some o → isDefer o.op = false) (hQ : ∀ a w, C w → Q a → Q' .normal a w) : ∀ (fuel : Nat) (listed : Array Bool) (a : Act) (w : World), C w → wpAnyQIn F n P md ops C Q fuel listed a → wpAnyIn F n P md ops Q' fuel listed a w
  | 0, _, _, _, hw, h => ⟨h.1, hQ _ _ hw h.2⟩
  | fuel + 1, _, _, _, hw, h => ⟨fun h0 => hQ _ _ hw (h.1 h0), fun i hi => op_quiet (hd i) hw (fun a' w' hw' => any_quiet hd hQ fuel _ a' w' hw') (h.2 i hi)⟩
/-- One walk of the text's order serves every order, in a round too. -/
theorem region_quiet_round {id : Nat} {Q : Exit → Act → World → Prop} {a : Act} {w : World} {l : List Oper} (hd : (l.all fun o => !isDefer o.op) = true) (hm : P.follows .mixedOrders = true) (hB : Region.lexB .any l.toArray = true)
    (h : wpQuietIn F n P l.toArray (fun w' => ∃ n, w' = w.drewN n) (fun a' => ∀ w', (∃ n, w' = w.drewN n) → Q .normal a' w') l a) : (Code.region id l.toArray true).wpIn F n P Q a w := by
  have hd' : ∀ (i : Nat) (o : Oper), l.toArray[i]? = some o → isDefer o.op = false := fun i o ho => by
    have := List.all_eq_true.1 hd o (by rw [List.getElem?_toArray] at ho; exact List.mem_of_getElem? ho)
    simpa using this
  simp only [Region.lexB, Bool.and_eq_true] at hB
  refine wpIn_region_any hm (any_quiet (Q := fun a' => ∀ w', (∃ n, w' = w.drewN n) → Q .normal a' w') hd' (fun _ w' hw' h => h w' hw') _ _ _ _ ⟨1, rfl⟩ ?_)
  have := wpAnyQIn_lex (F := F) (n := n) (C := fun w' => ∃ n, w' = w.drewN n) (md := .any) hB.1 l 0 (Array.replicate l.toArray.size false) a (by simp) (by simpa using hB.2) h
  simpa using this
end
end Go.Proofs.YtpniccllpfonfaaGreatDoor.Qr
namespace Go.Proofs.YtpniccllpfonfaaGreatDoor.Qr
open Go Go.RowKit
def plainCallee : Callee → Bool
  | .builtin .append => true
  | _ => false
/-- Operations that neither enter a function nor defer. -/
def plainOp : Op → Bool
  | .move _ | .assign _ | .load _ _ | .store _ _ _ | .indexAddr _ _ _ | .fieldAddr _ _ _ | .slice _ _ _ _ _ | .buildSlice _ _ _ | .alloc _ => true
  | .call c => plainCallee c.callee
  | _ => false
/-- Nothing is entered. -/
def Tame : Result Next → Prop
  | .ok (.value _) _ | .ok .skip _ | .halt _ _ => True
  | _ => False
theorem tame_value {P : Program} {s : Sem Value} {w : World} : Tame ((do pure (Next.value (← s)) : Sem Next).run P w) := by
  rw [Sem.run_bind]
  generalize s.run P w = r
  cases r <;> simp [Result.andThen, Tame]
theorem tame_skip {P : Program} {s : Sem Unit} {w : World} : Tame ((do s; pure Next.skip : Sem Next).run P w) := by
  rw [Sem.run_bind]
  generalize s.run P w = r
  cases r <;> simp [Result.andThen, Tame]
theorem callee_is {c : Callee} (h : plainCallee c = true) : c = .builtin .append := by
  cases c with
  | builtin b => cases b <;> first | rfl | cases h
  | value x => cases h
  | invoke r m => cases h
theorem plain_tame {P : Program} {o : Oper} (h : plainOp o.op = true) (ρ : Operand → Value) (w : World) : Tame ((execOp ρ o).run P w) := by
  obtain ⟨dst, op, ty, pos, after, guard⟩ := o
  cases op
  case call c =>
    obtain ⟨callee, args, ats⟩ := c
    obtain rfl := callee_is h
    simp only [execOp, resolve, invoke, builtin]
    rw [Sem.run_bind, Sem.run_pure]
    exact tame_value
  all_goals first
    | (cases h; done)
    | (simp only [execOp]; exact tame_value)
    | (simp only [execOp]; exact tame_skip)
    | (simp only [execOp]; rw [Sem.run_pure]; trivial)
theorem plain_about {P : Program} {o : Oper} (h : plainOp o.op = true) (ρ : Operand → Value) (w : World) : o.about P w ρ = none := by
  obtain ⟨dst, op, ty, pos, after, guard⟩ := o
  cases op
  case call c =>
    obtain ⟨callee, args, ats⟩ := c
    obtain rfl := callee_is h
    simp [Oper.about, resolve, Target.leads, Sem.run_pure]
  all_goals rfl
theorem plain_defer {o : Oper} (h : plainOp o.op = true) : isDefer o.op = false := by
  obtain ⟨dst, op, ty, pos, after, guard⟩ := o
  cases op <;> first | rfl | cases h
/-- Nothing but the common end. -/
def atEnd (Q : Act → World → Prop) : Exit → Act → World → Prop
  | .normal, a, w => Q a w
  | _, _, _ => False
theorem atEnd_lets {Q : Act → World → Prop} : ¬ LetsOut (atEnd Q) := fun ⟨_, _, h⟩ => h
section
variable {F : Fence} {n : Nat} {P : Program} {ops : Array Oper} {md : Region.Mode} {Q0 : Act → World → Prop} {Q : Exit → Act → World → Prop}
theorem oper_in {o : Oper} {a : Act} {w : World} {K K' : Act → World → Prop} (hp : plainOp o.op = true) (hK : ∀ a w, K a w → K' a w) (h : o.wp P a w K (atEnd Q0)) : o.wpIn F n P a w K' Q := by
  refine ⟨fun f hf => (by rw [plain_about hp] at hf; cases hf), ?_⟩
  rw [Oper.semAt_plain F _ _ (no_defer (plain_defer hp))]
  have ht := plain_tame (P := P) hp a.eval w
  unfold Oper.wp at h
  revert h ht
  generalize (execOp a.eval o).run P w = r
  intro h ht
  cases r with
  | halt x w' => cases x <;> simp only [Oper.upon, atEnd] at h
  | ok x w' => cases x <;> simp only [Tame] at ht <;> exact hK _ _ h
theorem op_in {i : Nat} {a : Act} {w : World} {K K' : Act → World → Prop} (hp : ∀ o, ops[i]? = some o → plainOp o.op = true) (hK : ∀ a w, K a w → K' a w) (h : wpOp P ops (atEnd Q0) i K a w) : wpOpIn F n P ops Q i K' a w := by
  unfold wpOp at h
  unfold wpOpIn
  cases ho : ops[i]? with
  | none =>
    simp only [ho] at h ⊢
    exact hK _ _ h
  | some o =>
    simp only [ho] at h ⊢
    split
    · rename_i hw
      rw [if_pos hw] at h
      rcases h with h | ⟨_, h⟩
      · exact oper_in (hp o ho) hK h
      · exact absurd h atEnd_lets
    · rename_i hw
      rw [if_neg hw] at h
      exact ⟨fun f hf => (by rw [plain_about (hp o ho)] at hf; cases hf), hK _ _ h⟩
theorem any_in (hp : ∀ (i : Nat) (o : Oper), ops[i]? = some o → plainOp o.op = true) (hQ : ∀ a w, Q0 a w → Q .normal a w) : ∀ (fuel : Nat) (listed : Array Bool) (a : Act) (w : World), wpAny P md ops (atEnd Q0) fuel listed a w → wpAnyIn F n P md ops Q fuel listed a w
  | 0, _, _, _, h => ⟨h.1, hQ _ _ h.2⟩
  | fuel + 1, _, _, _, h => ⟨fun h0 => hQ _ _ (h.1 h0), fun i hi => op_in (hp i) (fun a w => any_in hp hQ fuel _ a w) (h.2 i hi)⟩
/-- Each of these holds till its operation has come up. -/
def Held (L : List (Nat × (World → Prop))) (listed : Array Bool) (w : World) : Prop := ∀ p ∈ L, listed.getD p.1 true = false → p.2 w
theorem Held.two {s1 s2 : Nat} {S1 S2 : World → Prop} {listed : Array Bool} {w : World} (h1 : listed.getD s1 true = false → S1 w) (h2 : listed.getD s2 true = false → S2 w) : Held [(s1, S1), (s2, S2)] listed w := fun p hp => by
  rcases List.mem_cons.1 hp with rfl | hp
  · exact h1
  · obtain rfl := List.mem_singleton.1 hp
    exact h2
theorem Held.back {L : List (Nat × (World → Prop))} {listed : Array Bool} {w : World} {i : Nat} (hn : ∀ p ∈ L, p.1 ≠ i) (h : Held L (listed.setIfInBounds i true) w) : Held L listed w := fun p hp hl =>
  h p hp (by rw [getD_set_ne true (Ne.symm (hn p hp))]; exact hl)
theorem Held.on {L : List (Nat × (World → Prop))} {listed : Array Bool} {w : World} {i : Nat} (hn : ∀ p ∈ L, p.1 ≠ i) (h : Held L listed w) : Held L (listed.setIfInBounds i true) w := fun p hp hl =>
  h p hp (by rw [getD_set_ne true (Ne.symm (hn p hp))] at hl; exact hl)
/-- Whatever order is picked from here on; what is held holds behind every operation. -/
def wpAnyU (P : Program) (md : Region.Mode) (ops : Array Oper) (Q : Exit → Act → World → Prop) (L : List (Nat × (World → Prop))) : Nat → Array Bool → Act → World → Prop
  | 0, listed, a, w => Region.ready md ops listed = [] ∧ Q .normal a w
  | fuel + 1, listed, a, w =>
    (Region.ready md ops listed = [] → Q .normal a w) ∧
    ∀ i ∈ Region.ready md ops listed, wpOp P ops Q i (fun a' w' => Held L (listed.setIfInBounds i true) w' ∧ wpAnyU P md ops Q L fuel (listed.setIfInBounds i true) a' w') a w
theorem any_of_until {Q : Exit → Act → World → Prop} {L : List (Nat × (World → Prop))} : ∀ (fuel : Nat) (listed : Array Bool) (a : Act) (w : World), wpAnyU P md ops Q L fuel listed a w → wpAny P md ops Q fuel listed a w
  | 0, _, _, _, h => h
  | fuel + 1, _, _, _, h => ⟨h.1, fun i hi => wpOp_mono (fun a' w' h' => any_of_until fuel _ a' w' h'.2) (h.2 i hi)⟩
theorem until_first {Q : Exit → Act → World → Prop} {L : List (Nat × (World → Prop))} {S : World → Prop} {s i : Nat} {oi os : Oper} {v : Value} (hi : ops[i]? = some oi) (hsel : ∀ (j : Nat) (o : Oper) cs b, ops[j]? = some o → o.op ≠ .select cs b)
    (hQ : ∀ c a w, Q (.panic c) (a.put oi.dst v) w → Q (.panic c) a w) (hmem : (s, S) ∈ L) (hn : ∀ p ∈ L, p.1 ≠ i) (hos : ops[s]? = some os) (hw : ∃ e ∈ os.after, Region.binds md e = true ∧ e.on = i) :
    ∀ (fuel : Nat) (listed : Array Bool) (a : Act) (w : World), listed.getD s true = false →
      (∀ j oj, ops[j]? = some oj → j ≠ i → listed.getD j true = false → (∀ e ∈ oj.after, Region.binds md e = true → e.on ≠ i) → oi.apart ops oj = true) →
      i ∈ Region.ready md ops listed → YieldsIf P ops S oi v a → Held L listed w →
      wpAnyU P md ops Q L fuel (listed.setIfInBounds i true) (a.put oi.dst v) w → wpAnyU P md ops Q L (fuel + 1) listed a w := by
  have waits : ∀ (listed : Array Bool) (j : Nat) (oj : Oper), i ∈ Region.ready md ops listed → (∀ e ∈ oj.after, Region.binds md e = true → listed.getD e.on false = true) → ∀ e ∈ oj.after, Region.binds md e = true → e.on ≠ i := fun listed j oj hr hall e he hb heq => by
    have h1 := hall e he hb
    have h0 := (mem_ready.1 hr).1
    rw [heq] at h1
    rcases Nat.lt_or_ge i listed.size with h' | h'
    · simp [h'] at h0 h1
      rw [h0] at h1
      cases h1
    · simp [Array.getElem?_eq_none h'] at h1
  have notS : ∀ (listed : Array Bool), i ∈ Region.ready md ops listed → s ∉ Region.ready md ops listed := fun listed hr hs => by
    obtain ⟨e, he, hb, hon⟩ := hw
    obtain ⟨_, o2, ho2, hall⟩ := mem_ready.1 hs
    obtain rfl : os = o2 := Option.some.inj (hos.symm.trans ho2)
    exact waits listed s os hr hall e he hb hon
  intro fuel
  induction fuel with
  | zero =>
    intro listed a w hls _ hr hy hS H
    refine ⟨fun h => (by rw [h] at hr; cases hr), fun j hj => ?_⟩
    by_cases hji : j = i
    · subst hji
      exact hy.wpOp hi (hS _ hmem hls) ⟨hS.on hn, H⟩
    · have := ready_mono hj hji
      rw [H.1] at this
      cases this
  | succ fuel ih =>
    intro listed a w hls hfree hr hy hS H
    refine ⟨fun h => (by rw [h] at hr; cases hr), fun j hj => ?_⟩
    by_cases hji : j = i
    · subst hji
      exact hy.wpOp hi (hS _ hmem hls) ⟨hS.on hn, H⟩
    · have hjs : j ≠ s := fun e => notS listed hr (e ▸ hj)
      have h1 := H.2 j (ready_mono hj hji)
      obtain ⟨hjun, oj, hoj, hall⟩ := mem_ready.1 hj
      have h2 := wpOp_putIf hoj (hfree j oj hoj hji hjun (waits listed j oj hr hall)) (fun cs b => hsel i oi cs b hi) (fun cs b => hsel j oj cs b hoj) hQ hy h1
      have hfree' : ∀ k ok, ops[k]? = some ok → k ≠ i → (listed.setIfInBounds j true).getD k true = false →
          (∀ e ∈ ok.after, Region.binds md e = true → e.on ≠ i) → oi.apart ops ok = true := fun k ok hk hki hun hno => by
        refine hfree k ok hk hki ?_ hno
        by_cases hjk : j = k
        · subst hjk; exact hjun
        · rw [getD_set_ne true hjk] at hun; exact hun
      have hls' : (listed.setIfInBounds j true).getD s true = false := by rw [getD_set_ne true hjs]; exact hls
      refine wpOp_mono (fun a' w' h3 => ?_) h2
      have h4 := h3.2.1
      have h5 := h3.2.2
      rw [← Array.setIfInBounds_comm _ _ hji] at h4 h5
      exact ⟨h4.back hn, ih (listed.setIfInBounds j true) a' w' hls' hfree' (ready_mono hr (Ne.symm hji)) h3.1 (h4.back hn) h5⟩
/-- Number 'i' taken first. -/
theorem until_take {Q : Exit → Act → World → Prop} {L : List (Nat × (World → Prop))} {S : World → Prop} {s i : Nat} {oi os : Oper} {v : Value} {fuel : Nat} {listed : Array Bool} {a : Act} {w : World} (hi : ops[i]? = some oi) (hos : ops[s]? = some os)
    (hw : (os.after.any fun e => Region.binds md e && e.on == i) = true) (hn : (L.map (·.1)).all (fun k => k != i) = true) (hls : listed.getD s true = false)
    (hs : Region.noSelect ops = true) (hf : Region.free md ops listed i = true) (hr : (Region.ready md ops listed).contains i = true)
    (hQ : ∀ c a w, Q (.panic c) (a.put oi.dst v) w → Q (.panic c) a w) (hmem : (s, S) ∈ L) (hy : YieldsIf P ops S oi v a) (hS : Held L listed w)
    (h : Held L (listed.setIfInBounds i true) w → wpAnyU P md ops Q L fuel (listed.setIfInBounds i true) (a.put oi.dst v) w) : wpAnyU P md ops Q L (fuel + 1) listed a w := by
  have hn' : ∀ p ∈ L, p.1 ≠ i := fun p hp => by
    have := List.all_eq_true.1 hn p.1 (List.mem_map_of_mem hp)
    simpa using this
  refine until_first hi (Region.noSelect_spec hs) hQ hmem hn' hos ?_ fuel listed a w hls (Region.free_spec hi hf) (by simpa using hr) hy hS (h (hS.on hn'))
  obtain ⟨e, he, hb⟩ := Array.any_eq_true'.1 hw
  simp only [Bool.and_eq_true, beq_iff_eq] at hb
  exact ⟨e, he, hb.1, hb.2⟩
/-- The one that comes up next. -/
theorem until_one {Q : Exit → Act → World → Prop} {L : List (Nat × (World → Prop))} {i : Nat} {fuel : Nat} {listed : Array Bool} {a : Act} {w : World} (hr : Region.ready md ops listed = [i])
    (h : wpOp P ops Q i (fun a' w' => Held L (listed.setIfInBounds i true) w' ∧ wpAnyU P md ops Q L fuel (listed.setIfInBounds i true) a' w') a w) : wpAnyU P md ops Q L (fuel + 1) listed a w :=
  ⟨fun h0 => (by rw [hr] at h0; cases h0), fun j hj => by
    rw [hr] at hj
    obtain rfl : j = i := by simpa using hj
    exact h⟩
theorem until_done {Q : Exit → Act → World → Prop} {L : List (Nat × (World → Prop))} {listed : Array Bool} {a : Act} {w : World} (hr : Region.ready md ops listed = []) (h : Q .normal a w) : ∀ fuel, wpAnyU P md ops Q L fuel listed a w
  | 0 => ⟨hr, h⟩
  | _ + 1 => ⟨fun _ => h, by rw [hr]; simp⟩
/-- A region of plain operations that draws its order, its loads taken first. -/
theorem region_held_round {id : Nat} {a : Act} {w : World} {l : List Oper} (L : List (Nat × (World → Prop))) (hp : (l.all fun o => plainOp o.op) = true) (hm : P.follows .mixedOrders = true)
    (h : wpAnyU P .any l.toArray (atEnd fun a w => Q .normal a w) L l.toArray.size (Array.replicate l.toArray.size false) a (w.drewN 1)) : (Code.region id l.toArray true).wpIn F n P Q a w := by
  have hp' : ∀ (i : Nat) (o : Oper), l.toArray[i]? = some o → plainOp o.op = true := fun i o ho =>
    List.all_eq_true.1 hp o (by rw [List.getElem?_toArray] at ho; exact List.mem_of_getElem? ho)
  exact wpIn_region_any hm (any_in hp' (fun _ _ h => h) _ _ _ _ (any_of_until _ _ _ _ h))
variable {a : Act} {w w' : World} {K : Act → World → Prop} {i : Nat} {o : Oper}
theorem wpOp_value {v : Value} (hi : ops[i]? = some o) (hg : o.guard = none) (hrun : (execOp a.eval o).run P w = .ok (.value v) w') (h : K (a.put o.dst v) w') : wpOp P ops Q i K a w := by
  unfold wpOp
  simp only [hi]
  rw [if_pos (by simp [Region.wanted, hg])]
  refine .inl ?_
  unfold Oper.wp
  rw [hrun]
  exact h
theorem wpOp_skip (hi : ops[i]? = some o) (hg : o.guard = none) (hrun : (execOp a.eval o).run P w = .ok .skip w') (h : K (a.put o.dst undef) w') : wpOp P ops Q i K a w := by
  unfold wpOp
  simp only [hi]
  rw [if_pos (by simp [Region.wanted, hg])]
  refine .inl ?_
  unfold Oper.wp
  rw [hrun]
  exact h
theorem wpOp_append {v u v' : Value} (hi : ops[i]? = some o) (hg : o.guard = none) (s x : Operand) (t : TypeId) (hop : o.op = Op.call { callee := Callee.builtin Builtin.append, args := #[s, x], argTypes := #[t, t] }) (hs : a.eval s = v) (hx : a.eval x = u) (hrun : (Builtin.append_ #[t, t] o.type #[v, u]).run P w = .ok v' w') (h : K (a.put o.dst v') w') : wpOp P ops Q i K a w := by
  refine wpOp_value (v := v') (w' := w') hi hg ?_ h
  simp [execOp, hop, resolve, invoke, builtin, hs, hx, hrun, Result.andThen]
end
end Go.Proofs.YtpniccllpfonfaaGreatDoor.Qr
