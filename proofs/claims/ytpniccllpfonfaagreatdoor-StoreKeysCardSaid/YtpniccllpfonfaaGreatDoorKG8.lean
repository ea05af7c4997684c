-- Texts of this session put together by a program of it (wip/pack.py).
import Derived.Test.YtpniccllpfonfaaGreatDoorKG6
import Derived.Test.YtpniccllpfonfaaGreatDoorKQ29
import Derived.Test.YtpniccllpfonfaaGreatDoorKQ28b
namespace Go.Proofs.YtpniccllpfonfaaGreatDoor.St
open Go Go.RowKit Go.Proofs.YtpniccllpfonfaaGreatDoorW.PrintWords Go.Proofs.YtpniccllpfonfaaGreatDoor.Wd Go.Proofs.YtpniccllpfonfaaGreatDoor.Q
/-- What signs are worth. -/
def hv (l : List UInt8) : Nat := l.foldl (fun n c => 16 * n + (valOf c).toNat) 0
theorem hv_snoc (l : List UInt8) (c : UInt8) : hv (l ++ [c]) = 16 * hv l + (valOf c).toNat := by
  unfold hv
  rw [List.foldl_append]
  rfl
theorem hv_from : ∀ (m : List UInt8) (n : Nat), n ≤ m.foldl (fun n c => 16 * n + (valOf c).toNat) n
  | [], n => Nat.le_refl n
  | c :: m, n => by
    rw [List.foldl_cons]
    exact Nat.le_trans (by omega) (hv_from m _)
theorem hv_take (l : List UInt8) (i : Nat) : hv (l.take i) ≤ hv l := by
  have h := hv_from (l.drop i) (hv (l.take i))
  unfold hv at h ⊢
  rw [← List.foldl_append, List.take_append_drop] at h
  exact h
theorem hv_hex : ∀ (bs : List UInt8) (n : Nat), (hexL bs).foldl (fun n c => 16 * n + (valOf c).toNat) n = bs.foldl (fun n c => 256 * n + c.toNat) n
  | [], n => rfl
  | c :: l, n => by
    have hc := c.toNat_lt
    have e1 := valOf_hex ⟨c.toNat / 16, by omega⟩
    have e2 := valOf_hex ⟨c.toNat % 16, by omega⟩
    simp only at e1 e2
    unfold hexL
    rw [List.flatMap_cons]
    show (hexD (c.toNat / 16) :: hexD (c.toNat % 16) :: hexL l).foldl _ n = _
    rw [List.foldl_cons, List.foldl_cons, List.foldl_cons, hv_hex l, e1, e2]
    congr 1
    omega
theorem hv_worth (bs : List UInt8) : hv (hexL bs) = worth bs := hv_hex bs 0
theorem hex_of_valid : ∀ (k : Nat) (l : List UInt8), l.length = 2 * k → (∀ x ∈ l, 0 ≤ valOf x) → ∃ bs, l = hexL bs ∧ bs.length = k
  | 0, l, h, _ => ⟨[], by simpa [hexL] using h, rfl⟩
  | k + 1, [], h, _ => by simp at h
  | k + 1, [_], h, _ => by simp at h; omega
  | k + 1, c :: d :: l, h, hv => by
    obtain ⟨bs, e, hb⟩ := hex_of_valid k l (by simp at h; omega) (fun x hx => hv x (by simp [hx]))
    obtain ⟨b, _, h2⟩ := two_signs c d (hv c (by simp)) (hv d (by simp))
    refine ⟨b :: bs, ?_, by simp [hb]⟩
    unfold hexL at e ⊢
    rw [List.flatMap_cons, h2, ← e]
    rfl
theorem val_doc' : ∀ c : Fin 256, valOf (UInt8.ofNat c.val) = (if 97 ≤ c.val ∧ c.val ≤ 102 then (c.val : Int) - 87 else if 48 ≤ c.val ∧ c.val ≤ 57 then (c.val : Int) - 48 else -1) := by decide +kernel
theorem val_doc (c : UInt8) : valOf c = (if 97 ≤ c.toNat ∧ c.toNat ≤ 102 then (c.toNat : Int) - 87 else if 48 ≤ c.toNat ∧ c.toNat ≤ 57 then (c.toNat : Int) - 48 else -1) := by
  have := val_doc' ⟨c.toNat, c.toNat_lt⟩
  rwa [show UInt8.ofNat (⟨c.toNat, c.toNat_lt⟩ : Fin 256).val = c from UInt8.ofNat_toNat] at this
theorem no_number {s : ByteArray} {i : Nat} (hi : i < s.size) (h : valOf s[i] < 0) : NumIs s 0 false :=
  .inr ⟨fun bs e _ => by
    have := hex_mem bs s[i] (by rw [← e]; exact mem_at s hi)
    omega, rfl, rfl⟩
theorem too_great {s : ByteArray} {i : Nat} (h : 1099511627776 < hv (s.data.toList.take i)) : NumIs s 0 false :=
  .inr ⟨fun bs e _ => by
    have h1 := hv_take s.data.toList i
    have h2 := hv_worth bs
    rw [← e] at h2
    omega, rfl, rfl⟩
theorem numis_one {s : ByteArray} {n n' : Int} {ok ok' : Bool} (h : NumIs s n ok) (h' : NumIs s n' ok') : n = n' ∧ ok = ok' := by
  rcases h with ⟨bs, h1, h2, h3, h4, h5⟩ | ⟨h1, h2, h3⟩
  · rcases h' with ⟨bs', g1, g2, g3, g4, g5⟩ | ⟨g1, g2, g3⟩
    · rw [hexL_inj (h1.symm.trans g1)] at h4
      exact ⟨h4.trans g4.symm, h5.trans g5.symm⟩
    · have := g1 bs h1 h2
      omega
  · rcases h' with ⟨bs', g1, g2, g3, g4, g5⟩ | ⟨g1, g2, g3⟩
    · have := h1 bs' g1 g2
      omega
    · exact ⟨h2.trans g2.symm, h3.trans g3.symm⟩
theorem bt_at {s : ByteArray} {i : Nat} (hi : i < s.size) : bt s (i : Int) = (s[i].toNat : Int) := by
  unfold bt
  rw [dif_pos (by simpa using hi)]
  rfl
theorem wrB0 (c : UInt8) : wrap64 (c.toNat : Int) = (c.toNat : Int) := by have := c.toNat_lt; exact wr_id _ (by omega) (by omega)
theorem wrB1 (c : UInt8) : wrap64 ((c.toNat : Int) - 48) = (c.toNat : Int) - 48 := by have := c.toNat_lt; exact wr_id _ (by omega) (by omega)
theorem wrB2 (c : UInt8) : wrap64 ((c.toNat : Int) - 87) = (c.toNat : Int) - 87 := by have := c.toNat_lt; exact wr_id _ (by omega) (by omega)
theorem wrM (x : Nat) (h : x ≤ 1099511627776) : wrap64 (16 * (x : Int)) = 16 * (x : Int) := wr_id _ (by omega) (by omega)
theorem wrI (i : Nat) (h : i < 1000000) : wrap64 ((i : Int) + 1) = ((i + 1 : Nat) : Int) := by rw [wr_id _ (by omega) (by omega)]; simp
theorem wrF (x y : Nat) (v : Int) (hx : x ≤ 1099511627776) (h0 : 0 ≤ v) (h1 : v < 16) (hy : y = 16 * x + v.toNat) : wrap64 (16 * (x : Int) + v) = (y : Int) := by rw [wr_id _ (by omega) (by omega)]; omega
set_option maxHeartbeats 2000000 in
theorem number_l0 (s : ByteArray) (hs : s.size < 1000000) : ∀ (m i fuel : Nat), s.size - i = m → i ≤ s.size → (∀ x ∈ s.data.toList.take i, 0 ≤ valOf x) → hv (s.data.toList.take i) ≤ 1099511627776 → 3 * m + 3 ≤ fuel →
    ∃ n ok, bulletinref37_Number.l0 fuel s (hv (s.data.toList.take i) : Int) (i : Int) = some (n, ok) ∧ NumIs s n ok := by
  intro m
  induction m with
  | zero =>
    intro i fuel hm hi hval hle hf
    obtain rfl : i = s.size := by omega
    obtain ⟨f, rfl⟩ : ∃ f, fuel = f + 1 := ⟨fuel - 1, by omega⟩
    have e9 : s.data.toList.take s.size = s.data.toList := List.take_of_length_le (by rw [Array.length_toList]; exact Nat.le_refl _)
    rw [e9] at hval hle ⊢
    rw [bulletinref37_Number.l0, if_neg (by omega)]
    by_cases h16 : s.size = 16
    · rw [if_pos (by omega)]
      have hl : s.data.toList.length = 2 * 8 := by rw [Array.length_toList]; exact h16
      obtain ⟨bs, e, hb⟩ := hex_of_valid 8 s.data.toList hl hval
      have hw := hv_worth bs
      rw [← e] at hw
      exact ⟨_, _, rfl, .inl ⟨bs, e, hb, by omega, by omega, rfl⟩⟩
    · rw [if_neg (by omega)]
      refine ⟨_, _, rfl, .inr ⟨fun bs e h8 => ?_, rfl, rfl⟩⟩
      have h1 := congrArg List.length e
      rw [hexL_len, Array.length_toList, h8] at h1
      exact absurd h1 h16
  | succ m ih =>
    intro i fuel hm hi hval hle hf
    have hlt : i < s.size := by omega
    obtain ⟨f, rfl⟩ : ∃ f, fuel = f + 3 := ⟨fuel - 3, by omega⟩
    have hb := bt_at hlt
    have hcl := s[i].toNat_lt
    have ht := take_at s hlt
    have hvs := hv_snoc (s.data.toList.take i) s[i]
    rw [← ht] at hvs
    have hd := val_doc s[i]
    have hval' : 0 ≤ valOf s[i] → ∀ x ∈ s.data.toList.take (i + 1), 0 ≤ valOf x := fun h0 x hx => by
      rw [ht] at hx
      rcases List.mem_append.1 hx with h | h
      · exact hval x h
      · rw [List.mem_singleton.1 h]; exact h0
    -- the test of what it is worth then
    have fin : ∀ (v : Int) (f' : Nat), valOf s[i] = v → 0 ≤ v → 3 * m + 3 ≤ f' → ∃ n ok, (if wrap64 (16 * (hv (s.data.toList.take i) : Int) + v) > 1099511627776 then some (0, false) else bulletinref37_Number.l0 f' s (wrap64 (16 * (hv (s.data.toList.take i) : Int) + v)) ((i + 1 : Nat) : Int)) = some (n, ok) ∧ NumIs s n ok := by
      intro v f' hv1 hv0 hf'
      have hv16 := val_lt s[i]
      rw [wrF _ (hv (s.data.toList.take (i + 1))) v hle hv0 (by omega) (by rw [hvs, hv1])]
      by_cases hg : hv (s.data.toList.take (i + 1)) ≤ 1099511627776
      · rw [if_neg (by omega)]
        exact ih (i + 1) f' (by omega) (by omega) (hval' (by omega)) hg hf'
      · rw [if_pos (by omega)]
        exact ⟨_, _, rfl, too_great (i := i + 1) (by omega)⟩
    rw [bulletinref37_Number.l0, if_pos (by omega), if_pos (by omega), hb, wrB0, wrB1]
    by_cases h97 : 97 ≤ s[i].toNat
    · rw [if_pos (by omega)]
      by_cases h102 : s[i].toNat ≤ 102
      · rw [decide_eq_true (by omega : (s[i].toNat : Int) ≤ 102), bulletinref37_Number.j1, if_pos rfl, if_pos (by omega), if_pos (by omega), hb, wrB0, wrB2, wrM _ hle, wrI i (by omega)]
        rw [if_pos ⟨h97, h102⟩] at hd
        exact fin _ (f + 1) hd (by omega) (by omega)
      · rw [decide_eq_false (by omega : ¬ (s[i].toNat : Int) ≤ 102), bulletinref37_Number.j1, if_neg (by decide), if_neg (by omega), decide_eq_true (by omega : (s[i].toNat : Int) - 48 > 9), bulletinref37_Number.j2, if_pos rfl]
        rw [if_neg (by omega), if_neg (by omega)] at hd
        exact ⟨_, _, rfl, no_number hlt (by omega)⟩
    · rw [if_neg (by omega), bulletinref37_Number.j1, if_neg (by decide)]
      rw [if_neg (by omega)] at hd
      by_cases h48 : s[i].toNat < 48
      · rw [if_pos (by omega), bulletinref37_Number.j2, if_pos rfl]
        rw [if_neg (by omega)] at hd
        exact ⟨_, _, rfl, no_number hlt (by omega)⟩
      · rw [if_neg (by omega)]
        by_cases h57 : s[i].toNat ≤ 57
        · rw [decide_eq_false (by omega : ¬ (s[i].toNat : Int) - 48 > 9), bulletinref37_Number.j2, if_neg (by decide), wrM _ hle, wrI i (by omega)]
          rw [if_pos (by omega)] at hd
          exact fin _ f hd (by omega) (by omega)
        · rw [decide_eq_true (by omega : (s[i].toNat : Int) - 48 > 9), bulletinref37_Number.j2, if_pos rfl]
          rw [if_neg (by omega)] at hd
          exact ⟨_, _, rfl, no_number hlt (by omega)⟩
theorem number_f (s : ByteArray) (hs : s.size < 1000000) : ∃ n ok, bulletinref37_Number.f (3 * s.size + 3) s = some (n, ok) ∧ NumIs s n ok := by
  have := number_l0 s hs s.size 0 (3 * s.size + 3) (by omega) (by omega) (fun x hx => by simp at hx) (by simp [hv]) (by omega)
  simpa [hv, bulletinref37_Number.f] using this
end Go.Proofs.YtpniccllpfonfaaGreatDoor.St
namespace Go.Proofs.YtpniccllpfonfaaGreatDoor.St
open Go Go.RowKit Go.Proofs.YtpniccllpfonfaaGreatDoorW.PrintWords Go.Proofs.YtpniccllpfonfaaGreatDoor.Wd Go.Proofs.YtpniccllpfonfaaGreatDoor.Q
theorem drop_eight (n k : Nat) (hk : k < 8) : (eightOf n).drop (8 - (k + 1)) = UInt8.ofNat (n / 256 ^ k % 256) :: (eightOf n).drop (8 - k) := by
  have hl : 8 - (k + 1) < (eightOf n).length := by rw [eightOf_len]; omega
  rw [List.drop_eq_getElem_cons hl, show 8 - (k + 1) + 1 = 8 - k by omega]
  congr 1
  have : (eightOf n)[8 - (k + 1)]? = some (UInt8.ofNat (n / 256 ^ k % 256)) := by
    rw [eightOf_eq, List.getElem?_map, List.getElem?_range (by omega)]
    simp only [Option.map_some, byteAt]
    rw [show 8 * (7 - (8 - (k + 1))) = 8 * k by omega, Nat.pow_mul]
  rw [List.getElem?_eq_getElem hl] at this
  exact Option.some.inj this
theorem dq1 (x : Nat) : (Int.tmod (x : Int) 256) % 256 = ((x % 256 : Nat) : Int) := by
  rw [Int.tmod_eq_emod_of_nonneg (by omega)]
  omega
theorem dq2 (x : Nat) (h : x < 18446744073709551616) : IntKind.u64.wrap (Int.tdiv (x : Int) 256) = ((x / 256 : Nat) : Int) := by
  rw [Int.tdiv_eq_ediv_of_nonneg (by omega), IntKind.wrap_u64]
  omega
theorem dq3 (k : Nat) (h : k < 8) : wrap64 ((k : Int) + 1) = ((k + 1 : Nat) : Int) := by rw [wr_id _ (by omega) (by omega)]; simp
theorem dbytes_l0 (n : Nat) (hn : n < 18446744073709551616) : ∀ (m k fuel : Nat), 8 - k = m → k ≤ 8 → m < fuel → bulletinref05_Bytes.l0 fuel ((n / 256 ^ k : Nat) : Int) ⟨((eightOf n).drop (8 - k)).toArray⟩ (k : Int) = some ⟨(eightOf n).toArray⟩ := by
  intro m
  induction m with
  | zero =>
    intro k fuel hm hk hf
    obtain rfl : k = 8 := by omega
    obtain ⟨f, rfl⟩ : ∃ f, fuel = f + 1 := ⟨fuel - 1, by omega⟩
    rw [bulletinref05_Bytes.l0, if_neg (by omega)]
    rfl
  | succ m ih =>
    intro k fuel hm hk hf
    obtain ⟨f, rfl⟩ : ∃ f, fuel = f + 1 := ⟨fuel - 1, by omega⟩
    rw [bulletinref05_Bytes.l0, if_pos (by omega)]
    have hx : n / 256 ^ k < 18446744073709551616 := Nat.lt_of_le_of_lt (Nat.div_le_self _ _) hn
    have e2 : n / 256 ^ k / 256 = n / 256 ^ (k + 1) := by rw [Nat.pow_succ, ← Nat.div_div_eq_div_mul]
    have hs : (⟨((eightOf n).drop (8 - k)).toArray⟩ : ByteArray).size = k := by
      show ((eightOf n).drop (8 - k)).toArray.size = k
      rw [List.size_toArray, List.length_drop, eightOf_len]
      omega
    rw [dq1, dq2 _ hx, e2, dq3 k (by omega), Option.bind_some, strOfNums_one _ _ rfl, hs, if_pos (by show 1 + k ≤ _; omega)]
    have e4 : (⟨#[UInt8.ofNat (n / 256 ^ k % 256)]⟩ : ByteArray) ++ (⟨((eightOf n).drop (8 - k)).toArray⟩ : ByteArray) = ⟨((eightOf n).drop (8 - (k + 1))).toArray⟩ := by
      rw [drop_eight n k (by omega), show (⟨#[UInt8.ofNat (n / 256 ^ k % 256)]⟩ : ByteArray) = ⟨[UInt8.ofNat (n / 256 ^ k % 256)].toArray⟩ from rfl, mk_append]
      rfl
    rw [e4]
    exact ih (k + 1) f (by omega) (by omega) (by omega)
theorem dbytes_f (n : Nat) (hn : n < 18446744073709551616) : bulletinref05_Bytes.f 9 (n : Int) = some ⟨(eightOf n).toArray⟩ := by
  have := dbytes_l0 n hn 8 0 9 rfl (by omega) (by omega)
  rw [Nat.pow_zero, Nat.div_one, Nat.sub_zero, List.drop_of_length_le (by rw [eightOf_len]; exact Nat.le_refl _)] at this
  exact this
theorem dig_cut : ∀ i : Fin 16, (⟨#[48, 49, 50, 51, 52, 53, 54, 55, 56, 57, 97, 98, 99, 100, 101, 102]⟩ : ByteArray).extract i.val (i.val + 1) = ⟨#[hexD i.val]⟩ := by decide +kernel
section
variable {w : World}
set_option maxRecDepth 100000 in
set_option maxHeartbeats 4000000 in
theorem dto16_any (s : ByteArray) (hs : s.size < 10000000) : Calls Tryz.prog 74 #[.string s] w fun e w' => e = .returned (.string ⟨(hexL s.data.toList).toArray⟩) ∧ ∃ n, w' = w.drewN n := by
  go_enter Tryz.func74, Tryz.ntmps74
  go_wp2_with (fail)
  go_loopw [3, 5] (fun o i wr => ∃ k : Nat, k ≤ s.size ∧ i = .int .i64 (k : Int) ∧ o = .string ⟨(hexL (s.data.toList.take k)).toArray⟩ ∧ ∃ n, wr = w.drewN n) (fun _ i _ => s.size - (intOf i).toNat)
  case atStart => exact ⟨0, Nat.zero_le _, rfl, rfl, 0, rfl⟩
  case round =>
    obtain ⟨k, hk, rfl, rfl, n, rfl⟩ := hrel
    by_cases hlt : k < s.size
    · have k0 : (0 : Int) ≤ (k : Int) := by omega
      have k1 : (k : Int) < (s.size : Int) := by omega
      have hb := s[k].toNat_lt
      obtain ⟨hi, hhi⟩ : ∃ hi, hi = s[k].toNat / 16 := ⟨_, rfl⟩
      obtain ⟨lo, hlo⟩ : ∃ lo, lo = s[k].toNat % 16 := ⟨_, rfl⟩
      have hi16 : hi < 16 := by omega
      have lo16 : lo < 16 := by omega
      have e1 : IntKind.u8.wrap ((s[k].toNat : Int) / 16) = (s[k].toNat : Int) / 16 := by rw [IntKind.wrap_u8]; omega
      have e6 : Int.tmod (s[k].toNat : Int) 16 = (s[k].toNat : Int) % 16 := Int.tmod_eq_emod_of_nonneg (by omega)
      have e3 : IntKind.u8.wrap ((s[k].toNat : Int) % 16) = (s[k].toNat : Int) % 16 := by rw [IntKind.wrap_u8]; omega
      have e2 : IntKind.u8.wrap ((s[k].toNat : Int) / 16 + 1) = (s[k].toNat : Int) / 16 + 1 := by rw [IntKind.wrap_u8]; omega
      have e4 : IntKind.u8.wrap ((s[k].toNat : Int) % 16 + 1) = (s[k].toNat : Int) % 16 + 1 := by rw [IntKind.wrap_u8]; omega
      have c1 := dig_cut ⟨hi, hi16⟩
      have c2 := dig_cut ⟨lo, lo16⟩
      simp only at c1 c2
      have x1 : ((s[k].toNat : Int) / 16).toNat = hi := by omega
      have x3 : ((s[k].toNat : Int) / 16 + 1).toNat = hi + 1 := by omega
      have y1 : ((s[k].toNat : Int) % 16).toNat = lo := by omega
      have y3 : ((s[k].toNat : Int) % 16 + 1).toNat = lo + 1 := by omega
      have s1 : ∀ wx, (Instr.slice 9 (.string ⟨#[48, 49, 50, 51, 52, 53, 54, 55, 56, 57, 97, 98, 99, 100, 101, 102]⟩) (some (.int .u8 ((s[k].toNat : Int) / 16))) (some (.int .u8 (((s[k].toNat : Int) / 16) + 1))) none).run Tryz.prog wx = .ok (.string ⟨#[hexD hi]⟩) wx := fun wx => by
        have := run_slice_string (P := Tryz.prog) wx 9 ⟨#[48, 49, 50, 51, 52, 53, 54, 55, 56, 57, 97, 98, 99, 100, 101, 102]⟩ .u8 .u8 ((s[k].toNat : Int) / 16) (((s[k].toNat : Int) / 16) + 1) Tryz.underlying9 (by omega) (by omega) (by show _ ≤ (16 : Int); omega)
        rw [x1, x3, c1] at this
        exact this
      have s2 : ∀ wx, (Instr.slice 9 (.string ⟨#[48, 49, 50, 51, 52, 53, 54, 55, 56, 57, 97, 98, 99, 100, 101, 102]⟩) (some (.int .u8 ((s[k].toNat : Int) % 16))) (some (.int .u8 (((s[k].toNat : Int) % 16) + 1))) none).run Tryz.prog wx = .ok (.string ⟨#[hexD lo]⟩) wx := fun wx => by
        have := run_slice_string (P := Tryz.prog) wx 9 ⟨#[48, 49, 50, 51, 52, 53, 54, 55, 56, 57, 97, 98, 99, 100, 101, 102]⟩ .u8 .u8 ((s[k].toNat : Int) % 16) (((s[k].toNat : Int) % 16) + 1) Tryz.underlying9 (by omega) (by omega) (by show _ ≤ (16 : Int); omega)
        rw [y1, y3, c2] at this
        exact this
      have hol : (⟨(hexL (s.data.toList.take k)).toArray⟩ : ByteArray).size ≤ 20000000 := by
        rw [size_mk, hexL_len, List.length_take]
        omega
      obtain ⟨out, hout⟩ : ∃ out, out = (⟨(hexL (s.data.toList.take k)).toArray⟩ : ByteArray) := ⟨_, rfl⟩
      rw [← hout] at hol ⊢
      have HO := Lib.hid hout
      have q1 : ¬ 9223372036854775807 < out.size + 1 := by omega
      have q2 : ¬ 9223372036854775807 < out.size + 1 + 1 := by omega
      have HH := Lib.hid hhi
      have HL := Lib.hid hlo
      clear hout c1 c2 x1 y1 x3 y3 hhi hlo
      obtain ⟨d1, hd1⟩ : ∃ d1, d1 = (⟨#[hexD hi]⟩ : ByteArray) := ⟨_, rfl⟩
      obtain ⟨d2, hd2⟩ : ∃ d2, d2 = (⟨#[hexD lo]⟩ : ByteArray) := ⟨_, rfl⟩
      have z1 : d1.size = 1 := by rw [hd1]; rfl
      have z2 : d2.size = 1 := by rw [hd2]; rfl
      rw [← hd1] at s1
      rw [← hd2] at s2
      have D1 := Lib.hid hd1
      have D2 := Lib.hid hd2
      clear hd1 hd2
      go_wp2_with (fail)
      refine wp_region_quiet_lit (by kernel_rfl) (by kernel_rfl) ?_
      repeat (quiet_step (fail))
      refine wpQuiet_nil ?_
      intro _ hw'
      obtain ⟨nq, hw''⟩ := hw'
      subst hw''
      clear s1 s2 e1 e2 e3 e4 e6
      go_wp2_with (fail)
      go_roundw
      case rel =>
        refine ⟨k + 1, hlt, by simp, ?_, n + nq, by simp⟩
        rw [take_at s hlt, D1.out, D2.out, HO.out, HH.out, HL.out]
        have e9 : hexL (s.data.toList.take k ++ [s[k]]) = hexL (s.data.toList.take k) ++ [hexD (s[k].toNat / 16)] ++ [hexD (s[k].toNat % 16)] := by
          simp [hexL, hex2]
        rw [e9, ← mk_append, ← mk_append]
      case measure => simp [intOf]; omega
    · obtain rfl : k = s.size := by omega
      have e9 : s.data.toList.take s.size = s.data.toList := List.take_of_length_le (by rw [Array.length_toList]; exact Nat.le_refl _)
      rw [e9]
      clear e9
      go_wp2_with (fail)
      go_ret
      exact ⟨rfl, n, rfl⟩
theorem below_drawn_of (w : World) (n : Nat) : Below w.heap.size w (w.drewN n) := pw_below_drewN (Below.refl _ _) n
/-- A number's key, whatever the number. -/
def keyI (n : Int) : ByteArray := keyOf (n % 18446744073709551616).toNat
theorem wrapU (n : Int) : IntKind.u64.wrap n = (((n % 18446744073709551616).toNat : Nat) : Int) := by rw [IntKind.wrap_u64]; omega
theorem modU (n : Int) : (n % 18446744073709551616).toNat < 18446744073709551616 := by omega
set_option maxRecDepth 100000 in
set_option maxHeartbeats 4000000 in
theorem keyI_any (n : Int) : Calls Tryz.prog 36 #[.int .i64 n] w fun e w' => e = .returned (.string (keyI n)) ∧ Below w.heap.size w w' := by
  have hw := wrapU n
  have hm := modU n
  have hk : keyI n = keyOf (n % 18446744073709551616).toNat := rfl
  rw [hk]
  clear hk
  obtain ⟨m, hmm⟩ : ∃ m, m = (n % 18446744073709551616).toNat := ⟨_, rfl⟩
  rw [← hmm] at hw hm ⊢
  clear hmm
  have hsz : (strOfNums (numsTo m 8)).size = 8 := by rw [strOfNums_size, numsTo_len]
  have h16 : ∀ W, Calls Tryz.prog 72 #[.string (strOfNums (numsTo m 8))] W fun e w' => e = .returned (.string (keyOf m)) ∧ Below W.heap.size W w' := fun W => by
    go_enter Tryz.func72, Tryz.ntmps72
    go_wp2_with (go_at_call 117; (with_reducible refine (write16_any _ (by rw [hsz]; decide)).mono ?_); rintro e w1 ⟨rfl, b1⟩)
    go_ret
    exact ⟨rfl, b1⟩
  have hb := fun W => bytes_any (w := W) m (by omega)
  clear hsz
  go_enter Tryz.func36, Tryz.ntmps36
  go_wp2_with (first
    | (go_at_call 73; (with_reducible refine (hb _).mono ?_); rintro e w1 ⟨rfl, b1⟩)
    | (go_at_call 72; (with_reducible refine (h16 _).mono ?_); rintro e w2 ⟨rfl, b2⟩))
  go_ret
  exact ⟨rfl, b1.trans (b2.mono b1.size)⟩
set_option maxRecDepth 100000 in
set_option maxHeartbeats 4000000 in
theorem dkeyI_any (n : Int) : Calls Tryz.prog 37 #[.int .i64 n] w fun e w' => e = .returned (.string (keyI n)) ∧ Below w.heap.size w w' := by
  have hw := wrapU n
  have hm := modU n
  have hk : keyI n = keyOf (n % 18446744073709551616).toNat := rfl
  rw [hk]
  clear hk
  obtain ⟨m, hmm⟩ : ∃ m, m = (n % 18446744073709551616).toNat := ⟨_, rfl⟩
  rw [← hmm] at hw hm ⊢
  clear hmm
  have hsz : (⟨(eightOf m).toArray⟩ : ByteArray).size = 8 := by rw [size_mk, eightOf_len]
  have h16 : ∀ W, Calls Tryz.prog 74 #[.string ⟨(eightOf m).toArray⟩] W fun e w' => e = .returned (.string (keyOf m)) ∧ Below W.heap.size W w' := fun W => by
    refine (dto16_any (w := W) _ (by rw [hsz]; decide)).mono ?_
    rintro e w1 ⟨rfl, nn, rfl⟩
    refine ⟨?_, below_drawn_of W nn⟩
    simp [keyOf, eightOf]
  have hb := fun W => bulletinref05_Bytes.calls 9 (m : Int) _ W (dbytes_f m hm)
  clear hsz
  go_enter Tryz.func37, Tryz.ntmps37
  go_wp2_with (first
    | (go_at_call 75; (with_reducible refine (hb _).mono ?_); rintro e w1 ⟨rfl, b1⟩)
    | (go_at_call 74; (with_reducible refine (h16 _).mono ?_); rintro e w2 ⟨rfl, b2⟩))
  go_ret
  exact ⟨rfl, b1.trans (b2.mono b1.size)⟩
end
end Go.Proofs.YtpniccllpfonfaaGreatDoor.St
