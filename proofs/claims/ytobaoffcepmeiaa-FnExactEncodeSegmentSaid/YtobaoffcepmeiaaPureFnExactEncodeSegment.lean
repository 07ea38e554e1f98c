/- EncodeSegment of the program returns what EncodeSegment of the reference returns, for all arguments, leaves its argument as it was, and its answer owns its memory; without conditions. -/
import Derived.Test.YtobaoffcepmeiaaPFnExactEncodeSegmentx12
set_option linter.unusedVariables false
set_option linter.unusedSimpArgs false
namespace Go.Proofs.Ytobaoffcepmeiaa.Pure
open Go.RowKit Go.Proofs.Ytobaoffcepmeiaa.PFnExactEncodeSegment Go.Proofs.YtobaoffcepmeiaaW.PrintWords Go.Proofs.YtobaoffcepmeiaaW.PrintLast

/-! ### base -/
theorem wf64 {a : Int} (h : (Lit.int .i64 a).wf = true) : -9223372036854775808 ≤ a ∧ a ≤ 9223372036854775807 := by
  have h1 : IntKind.i64.min = -9223372036854775808 := by decide
  have h2 : IntKind.i64.max = 9223372036854775807 := by decide
  simp only [Lit.wf, Bool.and_eq_true, decide_eq_true_eq] at h
  omega
theorem tm_pos {a : Int} (n : Int) (h : 0 ≤ a) : Int.tmod a n = a % n := Int.tmod_eq_emod_of_nonneg h
theorem tm_neg {a : Int} (n : Int) (h : a ≤ 0) : Int.tmod a n = -((-a) % n) := by
  have := Int.neg_tmod (-a) n
  rw [Int.neg_neg] at this
  rw [this, Int.tmod_eq_emod_of_nonneg (by omega)]
theorem td_pos {a : Int} (n : Int) (h : 0 ≤ a) : Int.tdiv a n = a / n := Int.tdiv_eq_ediv_of_nonneg h
theorem wr64 {a : Int} (h : -9223372036854775808 ≤ a ∧ a ≤ 9223372036854775807) : wrap64 a = a := by
  unfold wrap64
  omega
theorem dec_eq {p : Prop} [Decidable p] {b : Bool} (h : b = true ↔ p) : some b = some (decide p) := by
  rw [Option.some.injEq, Bool.eq_iff_iff, decide_eq_true_eq]
  exact h
theorem ite_dec (p q : Prop) [Decidable p] [Decidable q] : (if p then some (decide q) else some false) = some (decide (p ∧ q)) := by
  by_cases h : p <;> simp [h]
theorem beq_dec (a b : Int) : (a == b) = decide (a = b) := by
  rw [Bool.eq_iff_iff]
  simp

/-! ### addr0 -/
theorem in_f (a l h : Int) : spec_l01In.f a l h = some (decide (l ≤ a ∧ a ≤ h)) := by
  unfold spec_l01In.f
  by_cases h1 : a ≥ l
  · rw [if_pos h1]; congr 1; rw [decide_eq_decide]; omega
  · rw [if_neg h1]; congr 1; rw [eq_comm, decide_eq_false_iff_not]; omega

/-! ### addr -/
theorem addrOK_f (a : Int) : spec_l02AddrOK.f a = some (decide (0 ≤ a ∧ a ≤ 4294967295)) := by
  unfold spec_l02AddrOK.f
  rw [in_f]
  rfl
theorem isAddr_f (a : Int) : impl_isAddr.f a = some (decide (0 ≤ a ∧ a ≤ 4294967295)) := by
  unfold impl_isAddr.f
  by_cases h1 : a ≥ 0
  · rw [if_pos h1]; congr 1; rw [decide_eq_decide]; omega
  · rw [if_neg h1]; congr 1; rw [eq_comm, decide_eq_false_iff_not]; omega

/-! ### lists -/
theorem rd_at {xs : List Int} {i : Nat} (h : i < xs.length) : rd xs (i : Int) = xs[i] := by
  unfold rd
  rw [Int.toNat_natCast, List.getD_eq_getElem?_getD, List.getElem?_eq_getElem h]
  rfl
theorem wr_succ {i n : Nat} (h : i < n) (hn : n ≤ 281474976710656) : wrap64 ((i : Int) + 1) = ((i + 1 : Nat) : Int) := by
  rw [wr64 (by omega)]
  omega
theorem maxLen_le {n : Nat} (h : n ≤ 1048576) : n ≤ 281474976710656 := by omega

/-! ### tobytes -/
theorem toB_l (x0 : List Int) (hn : x0.length ≤ 281474976710656) (d : Nat) : ∀ (k i : Nat) (x3 : List Int), i + d = x0.length → d < k → x3.length = x0.length → (∀ j, j < i → x3[j]? = x0[j]?) → laws_toByteS.l0 k x0 x3 (i : Int) = some x0 := by
  induction d with
  | zero =>
    intro k i x3 hi hk hl he
    obtain ⟨k, rfl⟩ : ∃ m, k = m + 1 := ⟨k - 1, by omega⟩
    simp only [laws_toByteS.l0]
    rw [if_neg (by omega)]
    congr 1
    apply List.ext_getElem?
    intro j
    by_cases hj : j < i
    · exact he j hj
    · rw [List.getElem?_eq_none (by omega), List.getElem?_eq_none (by omega)]
  | succ d ih =>
    intro k i x3 hi hk hl he
    obtain ⟨k, rfl⟩ : ∃ m, k = m + 1 := ⟨k - 1, by omega⟩
    simp only [laws_toByteS.l0]
    rw [if_pos (by omega), if_pos (by omega), if_pos (by omega), wr_succ (n := x0.length) (by omega) hn]
    refine ih k (i + 1) _ (by omega) (by omega) (by simp [hl]) ?_
    intro j hj
    rw [Int.toNat_natCast]
    by_cases e : j = i
    · subst e
      rw [List.getElem?_set_self (by omega), rd_at (by omega), List.getElem?_eq_getElem (by omega)]
    · rw [List.getElem?_set_ne (by omega)]
      exact he j (by omega)
theorem toB_f {l : List Int} (hn : l.length ≤ 281474976710656) {k : Nat} (hk : l.length < k) : laws_toByteS.f k l = some l := by
  unfold laws_toByteS.f
  rw [if_pos (by omega), if_pos (by simpa using hn), Int.toNat_natCast]
  exact toB_l l hn l.length k 0 _ (by omega) hk (by simp) (fun j hj => absurd hj (by omega))

/-! ### eqbytes -/
theorem eqB_l (x0 x1 : List Int) (hn : x0.length ≤ 281474976710656) (hl : x0.length = x1.length) (d : Nat) : ∀ (k i : Nat), i + d = x0.length → d < k → (∀ j, j < i → x0[j]? = x1[j]?) → laws_eqByteS.l0 k x0 x1 (i : Int) = some (decide (x0 = x1)) := by
  induction d with
  | zero =>
    intro k i hi hk he
    obtain ⟨k, rfl⟩ : ∃ m, k = m + 1 := ⟨k - 1, by omega⟩
    simp only [laws_eqByteS.l0]
    rw [if_neg (by omega)]
    have : x0 = x1 := by
      apply List.ext_getElem?
      intro j
      by_cases hj : j < i
      · exact he j hj
      · rw [List.getElem?_eq_none (by omega), List.getElem?_eq_none (by omega)]
    simp [this]
  | succ d ih =>
    intro k i hi hk he
    obtain ⟨k, rfl⟩ : ∃ m, k = m + 1 := ⟨k - 1, by omega⟩
    simp only [laws_eqByteS.l0]
    rw [if_pos (by omega), if_pos (by omega), if_pos (by omega), wr_succ (n := x0.length) (by omega) hn, rd_at (by omega), rd_at (by omega)]
    by_cases e : x0[i] = x1[i]
    · rw [if_pos e]
      refine ih k (i + 1) (by omega) (by omega) ?_
      intro j hj
      by_cases ej : j = i
      · subst ej
        rw [List.getElem?_eq_getElem (by omega), List.getElem?_eq_getElem (by omega), e]
      · exact he j (by omega)
    · rw [if_neg e]
      have : x0 ≠ x1 := fun h => by
        subst h
        exact e rfl
      simp [this]
theorem eqB_f {l m : List Int} (hn : l.length ≤ 281474976710656) {k : Nat} (hk : l.length < k) : laws_eqByteS.f k l m = some (decide (l = m)) := by
  unfold laws_eqByteS.f
  by_cases h : l.length = m.length
  · rw [if_pos (by omega)]
    exact eqB_l l m hn h l.length k 0 (by omega) hk (fun j hj => absurd hj (by omega))
  · rw [if_neg (by omega)]
    have : l ≠ m := fun e => h (by rw [e])
    simp [this]

/-! ### szbytes -/
theorem szB_f {l : List Int} {a : Int} (ha : 0 ≤ a ∧ a ≤ 1048576) (hl : l.length ≤ 9223372036854775807) : laws_szByteS.f l a = some (if (l.length : Int) > a then -1 else a - (l.length : Int)) := by
  unfold laws_szByteS.f
  rw [wr64 (by omega)]
  by_cases h : (l.length : Int) > a
  · rw [if_pos (by omega), if_pos h]
  · rw [if_neg (by omega), if_neg h]
theorem len_of {l : List Int} (h : l.length ≤ maxLen) : l.length ≤ 9223372036854775807 := by
  unfold maxLen at h
  exact h

/-! ### marks -/
/-- n marks from a number on. -/
def mks (a : Int) : Nat → List Int
  | 0 => []
  | n + 1 => mks a n ++ [(a + n) % 256]
theorem mks_len (a : Int) (n : Nat) : (mks a n).length = n := by
  induction n with
  | zero => rfl
  | succ n ih => simp [mks, ih]
theorem mks_at (a : Int) (n : Nat) : ∀ j, j < n → (mks a n)[j]? = some ((a + j) % 256) := by
  induction n with
  | zero => intro j h; omega
  | succ n ih =>
    intro j h
    unfold mks
    by_cases e : j < n
    · rw [List.getElem?_append_left (by rw [mks_len]; exact e)]
      exact ih j e
    · obtain rfl : j = n := by omega
      rw [List.getElem?_append_right (by rw [mks_len]; exact Nat.le_refl _), mks_len]
      simp
theorem markB_l (n : Nat) (a : Int) (ha : 0 ≤ a ∧ a ≤ 1099511627776) (hn : n ≤ 1099511627776) (d : Nat) : ∀ (k i : Nat) (x0 : List Int), x0.length = n → i + d = n → d < k → (∀ j, j < i → x0[j]? = some ((a + j) % 256)) → laws_markByteS.l0 k x0 (a + i) (i : Int) = some (a + n, mks a n) := by
  induction d with
  | zero =>
    intro k i x0 hl hi hk he
    obtain ⟨k, rfl⟩ : ∃ m, k = m + 1 := ⟨k - 1, by omega⟩
    simp only [laws_markByteS.l0]
    rw [if_neg (by omega)]
    congr 1
    rw [Prod.mk.injEq]
    refine ⟨by omega, ?_⟩
    apply List.ext_getElem?
    intro j
    by_cases hj : j < n
    · rw [he j (by omega), mks_at _ _ _ hj]
    · rw [List.getElem?_eq_none (by omega), List.getElem?_eq_none (by rw [mks_len]; omega)]
  | succ d ih =>
    intro k i x0 hl hi hk he
    obtain ⟨k, rfl⟩ : ∃ m, k = m + 1 := ⟨k - 1, by omega⟩
    simp only [laws_markByteS.l0]
    rw [if_pos (by omega), if_pos (by omega), wr64 (a := (i : Int) + 1) (by omega), wr64 (by omega), show a + (i : Int) + 1 = a + ((i + 1 : Nat) : Int) from by omega, show (i : Int) + 1 = ((i + 1 : Nat) : Int) from by omega, Int.toNat_natCast]
    refine ih k (i + 1) _ (by simp [hl]) (by omega) (by omega) ?_
    intro j hj
    by_cases e : j = i
    · subst e
      rw [List.getElem?_set_self (by omega)]
    · rw [List.getElem?_set_ne (by omega)]
      exact he j (by omega)
theorem markB_f {l : List Int} {a : Int} (ha : 0 ≤ a ∧ a ≤ 1099511627776) (hn : l.length ≤ 1099511627776) {k : Nat} (hk : l.length < k) : laws_markByteS.f k l a = some (a + l.length, mks a l.length) := by
  unfold laws_markByteS.f
  have := markB_l l.length a ha hn l.length k 0 l rfl (by omega) hk (fun j hj => absurd hj (by omega))
  simpa using this
theorem heldB_l (n : Nat) (a : Int) (ha : 0 ≤ a ∧ a ≤ 1099511627776) (hn : n ≤ 1099511627776) (d : Nat) : ∀ (k i : Nat), i + d = n → d < k → laws_heldByteS.l0 k (mks a n) (a + i) (i : Int) = some (a + n) := by
  induction d with
  | zero =>
    intro k i hi hk
    obtain ⟨k, rfl⟩ : ∃ m, k = m + 1 := ⟨k - 1, by omega⟩
    simp only [laws_heldByteS.l0]
    rw [if_neg (by rw [mks_len]; omega)]
    congr 1
    omega
  | succ d ih =>
    intro k i hi hk
    obtain ⟨k, rfl⟩ : ∃ m, k = m + 1 := ⟨k - 1, by omega⟩
    simp only [laws_heldByteS.l0]
    have hr : rd (mks a n) (i : Int) = (a + i) % 256 := by
      unfold rd
      rw [Int.toNat_natCast, List.getD_eq_getElem?_getD, mks_at a n i (by omega)]
      rfl
    rw [if_pos (by rw [mks_len]; omega), if_pos (by omega), if_pos hr, wr64 (a := (i : Int) + 1) (by omega), wr64 (by omega), show a + (i : Int) + 1 = a + ((i + 1 : Nat) : Int) from by omega, show (i : Int) + 1 = ((i + 1 : Nat) : Int) from by omega]
    exact ih k (i + 1) (by omega) (by omega)
theorem heldB_f {n : Nat} {a : Int} (ha : 0 ≤ a ∧ a ≤ 1099511627776) (hn : n ≤ 1099511627776) {k : Nat} (hk : n < k) : laws_heldByteS.f k (mks a n) a = some (a + n) := by
  unfold laws_heldByteS.f
  have := heldB_l n a ha hn n k 0 (by omega) hk
  simpa using this

/-! ### stretch -/
def cv (x : S165) : S157 := ⟨x.f0, x.f1⟩
theorem toS_l (x0 : List S165) (hn : x0.length ≤ 1048576) (d : Nat) : ∀ (k i : Nat) (x3 : List S157), i + d = x0.length → d < k → x3.length = x0.length → (∀ j, j < i → x3[j]? = (x0.map cv)[j]?) → laws_toStretchS.l0 k x0 x3 (i : Int) = some (x0.map cv) := by
  induction d with
  | zero =>
    intro k i x3 hi hk hl he
    obtain ⟨k, rfl⟩ : ∃ m, k = m + 1 := ⟨k - 1, by omega⟩
    simp only [laws_toStretchS.l0]
    rw [if_neg (by omega)]
    congr 1
    apply List.ext_getElem?
    intro j
    by_cases hj : j < i
    · exact he j hj
    · rw [List.getElem?_eq_none (by omega), List.getElem?_eq_none (by rw [List.length_map]; omega)]
  | succ d ih =>
    intro k i x3 hi hk hl he
    obtain ⟨k, rfl⟩ : ∃ m, k = m + 1 := ⟨k - 1, by omega⟩
    simp only [laws_toStretchS.l0, laws_toStretch.f, Option.bind_some]
    rw [if_pos (by omega), if_pos (by omega), if_pos (by omega), wr_succ (n := x0.length) (by omega) (by omega)]
    refine ih k (i + 1) _ (by omega) (by omega) (by simp [hl]) ?_
    intro j hj
    rw [Int.toNat_natCast]
    by_cases e : j = i
    · subst e
      rw [List.getElem?_set_self (by omega), List.getElem?_map, List.getElem?_eq_getElem (show j < x0.length by omega)]
      unfold rd_T165 cv
      rw [Int.toNat_natCast, List.getD_eq_getElem?_getD, List.getElem?_eq_getElem (show j < x0.length by omega)]
      rfl
    · rw [List.getElem?_set_ne (by omega)]
      exact he j (by omega)
theorem toS_f {l : List S165} (hn : l.length ≤ 1048576) {k : Nat} (hk : l.length < k) : laws_toStretchS.f k l = some (l.map cv) := by
  unfold laws_toStretchS.f
  rw [if_pos (by omega), if_pos (by rw [Int.toNat_natCast]; omega), Int.toNat_natCast]
  exact toS_l l hn l.length k 0 _ (by omega) hk (by simp) (fun j hj => absurd hj (by omega))
theorem eqS_l (x : List S157) (hn : x.length ≤ 1048576) (d : Nat) : ∀ (k i : Nat), i + d = x.length → d < k → laws_eqStretchS.l0 k x x (i : Int) = some true := by
  induction d with
  | zero =>
    intro k i hi hk
    obtain ⟨k, rfl⟩ : ∃ m, k = m + 1 := ⟨k - 1, by omega⟩
    simp only [laws_eqStretchS.l0]
    rw [if_neg (by omega)]
  | succ d ih =>
    intro k i hi hk
    obtain ⟨k, rfl⟩ : ∃ m, k = m + 1 := ⟨k - 1, by omega⟩
    simp only [laws_eqStretchS.l0, laws_eqStretch.f, if_true, Option.bind_some]
    rw [if_pos (by omega), if_pos (by omega), if_pos (by omega), wr_succ (n := x.length) (by omega) (by omega)]
    exact ih k (i + 1) (by omega) (by omega)
theorem eqS_same {l : List S157} (hn : l.length ≤ 1048576) {k : Nat} (hk : l.length < k) : laws_eqStretchS.f k l l = some true := by
  unfold laws_eqStretchS.f
  rw [if_pos rfl]
  exact eqS_l l hn l.length k 0 (by omega) hk
theorem szS_f {l : List S165} {a : Int} (ha : 0 ≤ a ∧ a ≤ 1048576) (hl : l.length ≤ 9223372036854775807) : laws_szStretchS.f l a = some (if (l.length : Int) > a then -1 else a - (l.length : Int)) := by
  unfold laws_szStretchS.f
  rw [wr64 (by omega)]
  by_cases h : (l.length : Int) > a
  · rw [if_pos (by omega), if_pos h]
  · rw [if_neg (by omega), if_neg h]

/-! ### segment -/
theorem toSeg_f (a0 a1 a2 a3 a4 a5 a6 : Int) (b7 : Bool) (a8 : Int) (b9 : Bool) (s : List S165) (p : List Int) {k : Nat} (h : s.length + p.length ≤ 1048576) (hk : s.length + p.length < k) : laws_toSegment.f k a0 a1 a2 a3 a4 a5 a6 b7 a8 b9 s p = some (a0, a1, a2, a3, a4, a5, a6, b7, a8, b9, s.map cv, p) := by
  unfold laws_toSegment.f
  rw [toS_f (by omega) (by omega), toB_f (by omega) (by omega)]
  rfl
theorem eqSeg_same (a0 a1 a2 a3 a4 a5 a6 : Int) (b7 : Bool) (a8 : Int) (b9 : Bool) (s : List S157) (p : List Int) {k : Nat} (h : s.length + p.length ≤ 1048576) (hk : s.length + p.length < k) : laws_eqSegment.f k a0 a1 a2 a3 a4 a5 a6 b7 a8 b9 s p a0 a1 a2 a3 a4 a5 a6 b7 a8 b9 s p = some true := by
  unfold laws_eqSegment.f
  rw [eqS_same (by omega) (by omega), eqB_f (by omega) (by omega)]
  simp
theorem szSeg_f (a0 a1 a2 a3 a4 a5 a6 : Int) (b7 : Bool) (a8 : Int) (b9 : Bool) {s : List S165} {p : List Int} (hs : s.length ≤ 9223372036854775807) (hp : p.length ≤ 9223372036854775807) : ∃ r, laws_szSegment.f a0 a1 a2 a3 a4 a5 a6 b7 a8 b9 s p 1048576 = some r ∧ (r < 0 ∨ s.length + p.length ≤ 1048576) := by
  unfold laws_szSegment.f
  rw [szS_f (by omega) hs]
  simp only [Option.bind_some]
  by_cases h : (s.length : Int) > 1048576
  · exact ⟨_, by rw [if_pos h]; rfl, .inl (by omega)⟩
  · rw [if_neg h, if_neg (by omega), szB_f (by omega) hp]
    simp only [Option.bind_some]
    by_cases h2 : (p.length : Int) > 1048576 - (s.length : Int)
    · exact ⟨_, by rw [if_pos h2]; rfl, .inl (by omega)⟩
    · refine ⟨_, by rw [if_neg h2, if_neg (by omega)], .inr (by omega)⟩

/-! ### bits -/
theorem wraps_i64 (n : Int) (h₀ : 0 ≤ n) (h₁ : n < 2 ^ 63) : IntKind.i64.wrap n = n := by rw [IntKind.wrap_i64]; omega
/-- The low bits of any whole number. -/
theorem and_low (i : Nat) (hi : i ≤ 62) (x : Int) : Go.bits .and .i64 x (2 ^ i - 1) = x % 2 ^ i := by
  have hpos : 0 < 2 ^ i := Nat.two_pow_pos i
  have h62 : 2 ^ i ≤ 2 ^ 62 := Nat.pow_le_pow_right (by decide) hi
  have hc : ((2 : Int) ^ i - 1) = ((2 ^ i - 1 : Nat) : Int) := by
    rw [Int.natCast_sub hpos]; simp
  have hx0 : 0 ≤ x % 18446744073709551616 := Int.emod_nonneg _ (by decide)
  have hx : (BitVec.ofInt 64 x).toNat = (x % 18446744073709551616).toNat := by rw [BitVec.toNat_ofInt]; rfl
  have hd : ((2 : Int) ^ i) ∣ 18446744073709551616 := by
    rw [show (18446744073709551616 : Int) = 2 ^ 64 from rfl]
    exact ⟨2 ^ (64 - i), by rw [← Int.pow_add, show i + (64 - i) = 64 from by omega]⟩
  have h2 : ((x % 18446744073709551616).toNat % 2 ^ i : Nat) = (x % 2 ^ i).toNat := by
    apply Int.ofNat.inj
    have e1 : (((x % 18446744073709551616).toNat % 2 ^ i : Nat) : Int) = x % 2 ^ i := by
      rw [Int.natCast_emod, Int.toNat_of_nonneg hx0, Int.natCast_pow]
      exact Int.emod_emod_of_dvd _ hd
    have e2 : 0 ≤ x % 2 ^ i := Int.emod_nonneg _ (by have : (0 : Int) < 2 ^ i := Int.pow_pos (by decide); omega)
    exact e1.trans (Int.toNat_of_nonneg e2).symm
  have e2 : 0 ≤ x % 2 ^ i := Int.emod_nonneg _ (by have : (0 : Int) < 2 ^ i := Int.pow_pos (by decide); omega)
  have e3 : x % 2 ^ i < 2 ^ i := Int.emod_lt_of_pos _ (Int.pow_pos (by decide))
  have e4 : (2 : Int) ^ i ≤ 2 ^ 62 := by exact_mod_cast h62
  have key : Go.bits .and .i64 x (2 ^ i - 1) = IntKind.i64.wrap (((BitVec.ofInt 64 x).toNat &&& (BitVec.ofInt 64 ((2 ^ i - 1 : Nat) : Int)).toNat : Nat) : Int) := by
    rw [hc]
    show IntKind.i64.wrap ((BitVec.ofInt 64 x &&& BitVec.ofInt 64 ((2 ^ i - 1 : Nat) : Int)).toNat : Int) = _
    rw [BitVec.toNat_and]
  rw [key, hx]
  have hm : (BitVec.ofInt 64 ((2 ^ i - 1 : Nat) : Int)).toNat = 2 ^ i - 1 := by
    rw [BitVec.ofInt_natCast, BitVec.toNat_ofNat]
    exact Nat.mod_eq_of_lt (by omega)
  rw [hm, Nat.and_two_pow_sub_one_eq_mod, h2, Int.toNat_of_nonneg e2]
  exact wraps_i64 _ e2 (by omega)
theorem and_65535 (x : Int) : Go.bits .and .i64 x 65535 = x % 65536 := and_low 16 (by decide) x
theorem and_255 (x : Int) : Go.bits .and .i64 x 255 = x % 256 := and_low 8 (by decide) x
theorem nat_and_high (a n : Nat) (ha : a < 2 ^ 32) (hn : n ≤ 32) : a &&& ((2 ^ (32 - n) - 1) * 2 ^ n) = a / 2 ^ n * 2 ^ n := by
  apply Nat.eq_of_testBit_eq
  intro i
  rw [Nat.testBit_and, Nat.testBit_mul_two_pow, Nat.testBit_mul_two_pow, Nat.testBit_div_two_pow, Nat.testBit_two_pow_sub_one]
  by_cases h : n ≤ i
  · simp only [h, decide_true, Bool.true_and]
    rw [show i - n + n = i from by omega]
    by_cases h3 : i - n < 32 - n
    · simp [h3]
    · have : a.testBit i = false := Nat.testBit_lt_two_pow (Nat.lt_of_lt_of_le ha (Nat.pow_le_pow_right (by decide) (by omega)))
      simp [this]
  · simp [h]
theorem and_high (a : Int) (n : Nat) (h0 : 0 ≤ a) (h1 : a ≤ 4294967295) (hn : n ≤ 32) : Go.bits .and .i64 a ((2 ^ (32 - n) - 1) * 2 ^ n) = a / 2 ^ n * 2 ^ n := by
  obtain ⟨b, rfl⟩ := Int.eq_ofNat_of_zero_le h0
  have hc : (((2 : Int) ^ (32 - n) - 1) * 2 ^ n) = (((2 ^ (32 - n) - 1) * 2 ^ n : Nat) : Int) := by
    rw [Int.natCast_mul, Int.natCast_sub (Nat.two_pow_pos _)]; simp
  have hl : (2 ^ (32 - n) - 1) * 2 ^ n ≤ 4294967295 := by
    rw [Nat.sub_mul, ← Nat.pow_add, show 32 - n + n = 32 from by omega]
    have := Nat.two_pow_pos n
    omega
  rw [hc, (bits_nat .i64 63 (by decide) wraps_i64 b _ (by omega) (by omega)).1, nat_and_high b n (by omega) hn]
  simp

/-! ### wsum -/
/-- What a sum of numbers of two bytes folds to. -/
def fold (s : Int) : Int := if s = 0 then 0 else (s - 1) % 65535 + 1
theorem fold_le (s : Int) (h : 0 ≤ s) : 0 ≤ fold s ∧ fold s ≤ 65535 := by unfold fold; split <;> omega
theorem fold_low {s : Int} (h : 0 ≤ s ∧ s ≤ 65535) : fold s = s := by unfold fold; split <;> omega
theorem fold_step {s : Int} (h : s > 65535) : fold (s / 65536 + s % 65536) = fold s := by
  unfold fold
  rw [if_neg (by omega), if_neg (by omega)]
  omega
theorem fold_sub {s : Int} (h : s > 65535) : fold (s - 65535) = fold s := by
  unfold fold
  rw [if_neg (by omega), if_neg (by omega)]
  omega
/-- The sum of bytes: the one at a place with 'b' counts 256 times, and so on in turn. -/
def wsp : Bool → List Int → Int
  | _, [] => 0
  | true, a :: r => a * 256 + wsp false r
  | false, a :: r => a + wsp true r
/-- All are bytes. -/
def Bs (l : List Int) : Prop := ∀ x ∈ l, 0 ≤ x ∧ x ≤ 255
theorem Bs.get {l : List Int} (h : Bs l) {i : Nat} (hi : i < l.length) : 0 ≤ l[i] ∧ l[i] ≤ 255 := h _ (List.getElem_mem hi)
theorem Bs.of {l : List Int} (h : ∀ x ∈ l, (Lit.int .u8 x).wf = true) : Bs l := by
  intro x hx
  have hw := h x hx
  have h1 : IntKind.u8.min = 0 := by decide
  have h2 : IntKind.u8.max = 255 := by decide
  simp only [Lit.wf, Bool.and_eq_true, decide_eq_true_eq] at hw
  omega
theorem Bs.append {a b : List Int} (ha : Bs a) (hb : Bs b) : Bs (a ++ b) := by
  intro x hx
  rcases List.mem_append.1 hx with h | h
  · exact ha x h
  · exact hb x h
theorem Bs.take {l : List Int} (h : Bs l) (n : Nat) : Bs (l.take n) := fun x hx => h x (List.mem_of_mem_take hx)
theorem Bs.drop {l : List Int} (h : Bs l) (n : Nat) : Bs (l.drop n) := fun x hx => h x (List.mem_of_mem_drop hx)
theorem Bs.tail {a : Int} {l : List Int} (h : Bs (a :: l)) : Bs l := fun x hx => h x (List.mem_cons_of_mem _ hx)
theorem wsp_bd (l : List Int) : ∀ (b : Bool), Bs l → 0 ≤ wsp b l ∧ wsp b l ≤ 65280 * (l.length : Int) := by
  induction l with
  | nil => intro b _; cases b <;> simp [wsp]
  | cons a r ih =>
    intro b h
    have ha := h a (List.mem_cons_self ..)
    have h1 := ih true h.tail
    have h2 := ih false h.tail
    cases b <;> (simp only [wsp, List.length_cons]; omega)
theorem drop_cons {l : List Int} {i : Nat} (h : i < l.length) : l.drop i = l[i] :: l.drop (i + 1) := List.drop_eq_getElem_cons h
/-- The checksum of bytes. -/
def csum (l : List Int) : Int := 65535 - fold (wsp true l)
theorem csum_le {l : List Int} (h : Bs l) : 0 ≤ csum l ∧ csum l ≤ 65535 := by
  have := fold_le _ (wsp_bd l true h).1
  unfold csum
  omega

/-! ### be -/
/-- The low n bytes of a number, the high one first. -/
def be : Nat → Int → List Int
  | 0, _ => []
  | n + 1, v => (v / 2 ^ (8 * n) % 256) :: be n v
theorem be_len (n : Nat) (v : Int) : (be n v).length = n := by
  induction n with
  | zero => rfl
  | succ n ih => simp [be, ih]

/-! ### bebytes -/
theorem be_bytes (n : Nat) (v : Int) : Bs (be n v) := by
  induction n with
  | zero => intro x hx; cases hx
  | succ n ih =>
    intro x hx
    rcases List.mem_cons.1 hx with rfl | h
    · omega
    · exact ih x h

/-! ### l01copy -/
theorem copy_l (x0 : List Int) (hn : x0.length ≤ 1048576) (d : Nat) : ∀ (k i : Nat), i + d = x0.length → d < k → spec_l01Copy.l0 k x0 (x0.take i) (i : Int) = some x0 := by
  induction d with
  | zero =>
    intro k i hi hk
    obtain ⟨k, rfl⟩ : ∃ m, k = m + 1 := ⟨k - 1, by omega⟩
    simp only [spec_l01Copy.l0]
    rw [if_neg (by omega), List.take_of_length_le (by omega)]
  | succ d ih =>
    intro k i hi hk
    obtain ⟨k, rfl⟩ : ∃ m, k = m + 1 := ⟨k - 1, by omega⟩
    simp only [spec_l01Copy.l0]
    rw [if_pos (by omega), if_pos (by omega), if_pos (by rw [List.length_take]; omega), wr_succ (n := x0.length) (by omega) (by omega), rd_at (by omega), ← List.take_succ_eq_append_getElem (by omega)]
    exact ih k (i + 1) (by omega) (by omega)
theorem copy_f {l : List Int} (hn : l.length ≤ 1048576) {k : Nat} (hk : l.length < k) : spec_l01Copy.f k l = some l := copy_l l hn l.length k 0 (by omega) hk

/-! ### l01join -/
theorem join_l (a x1 : List Int) (ha : a.length ≤ 1048576) (hn : x1.length ≤ 1048576) (d : Nat) : ∀ (k i : Nat), i + d = x1.length → d < k → spec_l01Join.l0 k x1 (a ++ x1.take i) (i : Int) = some (a ++ x1) := by
  induction d with
  | zero =>
    intro k i hi hk
    obtain ⟨k, rfl⟩ : ∃ m, k = m + 1 := ⟨k - 1, by omega⟩
    simp only [spec_l01Join.l0]
    rw [if_neg (by omega), List.take_of_length_le (by omega)]
  | succ d ih =>
    intro k i hi hk
    obtain ⟨k, rfl⟩ : ∃ m, k = m + 1 := ⟨k - 1, by omega⟩
    simp only [spec_l01Join.l0]
    rw [if_pos (by omega), if_pos (by omega), if_pos (by rw [List.length_append, List.length_take]; omega), wr_succ (n := x1.length) (by omega) (by omega), rd_at (by omega), List.append_assoc, ← List.take_succ_eq_append_getElem (by omega)]
    exact ih k (i + 1) (by omega) (by omega)
theorem join_f {a b : List Int} (ha : a.length ≤ 1048576) (hb : b.length ≤ 1048576) {k : Nat} (hk : a.length < k) (hk2 : b.length < k) : spec_l01Join.f k a b = some (a ++ b) := by
  unfold spec_l01Join.f
  rw [copy_f ha hk]
  have := join_l a b ha hb b.length k 0 (by omega) hk2
  simpa using this

/-! ### specsum -/
theorem ssum_l (l : List Int) (hb : Bs l) (hn : l.length ≤ 1048576) (d : Nat) : ∀ (k i : Nat) (s : Int), l.length - i ≤ d → d < k → 0 ≤ s → s ≤ 65535 → i ≤ l.length + 1 → spec_l01Sum.l0 k l s (i : Int) = some (fold (s + wsp true (l.drop i))) := by
  induction d with
  | zero =>
    intro k i s hi hk h0 h1 hl
    obtain ⟨k, rfl⟩ : ∃ m, k = m + 1 := ⟨k - 1, by omega⟩
    simp only [spec_l01Sum.l0]
    rw [if_neg (by omega), List.drop_eq_nil_of_le (by omega)]
    simp only [wsp, Int.add_zero]
    rw [fold_low ⟨h0, h1⟩]
  | succ d ih =>
    intro k i s hi hk h0 h1 hl
    obtain ⟨k, rfl⟩ : ∃ m, k = m + 1 := ⟨k - 1, by omega⟩
    simp only [spec_l01Sum.l0]
    by_cases c1 : i < l.length
    · have b1 := hb.get c1
      rw [if_pos (by omega), if_pos (by omega), wr64 (a := (i : Int) + 1) (by omega), rd_at c1, wr64 (a := l[i]) (by omega), wr64 (a := l[i] * 256) (by omega), drop_cons c1]
      by_cases c2 : i + 1 < l.length
      · have b2 := hb.get c2
        have bd := wsp_bd (l.drop (i + 1 + 1)) true (hb.drop _)
        rw [if_pos (by omega), if_pos (by omega), show (i : Int) + 1 = ((i + 1 : Nat) : Int) from by omega, rd_at c2, wr64 (a := l[i + 1]) (by omega), wr64 (a := l[i] * 256 + l[i + 1]) (by omega), wr64 (a := s + (l[i] * 256 + l[i + 1])) (by omega), wr64 (a := (i : Int) + 2) (by omega), show (i : Int) + 2 = ((i + 1 + 1 : Nat) : Int) from by omega, drop_cons c2]
        simp only [wsp]
        by_cases c3 : s + (l[i] * 256 + l[i + 1]) > 65535
        · rw [if_pos c3, wr64 (by omega), ih k _ _ (by omega) (by omega) (by omega) (by omega) (by omega)]
          rw [← fold_sub (s := s + (l[i] * 256 + (l[i + 1] + wsp true (l.drop (i + 1 + 1))))) (by omega)]
          congr 2
          omega
        · rw [if_neg c3, ih k _ _ (by omega) (by omega) (by omega) (by omega) (by omega)]
          congr 2
          omega
      · rw [if_neg (by omega), wr64 (a := s + l[i] * 256) (by omega), wr64 (a := (i : Int) + 2) (by omega), show (i : Int) + 2 = ((i + 2 : Nat) : Int) from by omega, List.drop_eq_nil_of_le (show l.length ≤ i + 1 by omega)]
        have e2 : l.drop (i + 2) = [] := List.drop_eq_nil_of_le (by omega)
        simp only [wsp, Int.add_zero]
        by_cases c3 : s + l[i] * 256 > 65535
        · rw [if_pos c3, wr64 (by omega), ih k _ _ (by omega) (by omega) (by omega) (by omega) (by omega), e2]
          simp only [wsp, Int.add_zero]
          rw [← fold_sub (s := s + l[i] * 256) c3]
        · rw [if_neg c3, ih k _ _ (by omega) (by omega) (by omega) (by omega) (by omega), e2]
          simp only [wsp, Int.add_zero]
    · rw [if_neg (by omega), List.drop_eq_nil_of_le (by omega)]
      simp only [wsp, Int.add_zero]
      rw [fold_low ⟨h0, h1⟩]
theorem scheck_f {l : List Int} (hb : Bs l) (hn : l.length ≤ 1048576) {k : Nat} (hk : l.length < k) : spec_Checksum.f k l = some (csum l) := by
  unfold spec_Checksum.f spec_l01Sum.f
  have h := ssum_l l hb hn l.length k 0 0 (by omega) hk (by omega) (by omega) (by omega)
  rw [show ((0 : Nat) : Int) = 0 from rfl] at h
  have bd := wsp_bd l true hb
  have fl := fold_le _ bd.1
  rw [h]
  simp only [Option.bind_some, List.drop_zero, Int.zero_add]
  rw [wr64 (by omega)]
  rfl

/-! ### specput -/
theorem sput_l (v : Int) (n : Nat) : ∀ (k : Nat) (x : List Int), n ≤ 8 → x.length + n ≤ 1048576 → n < k → spec_l03Put.l0 k v x ((n : Int) - 1) = some (x ++ be n v) := by
  induction n with
  | zero =>
    intro k x hn hx hk
    obtain ⟨k, rfl⟩ : ∃ m, k = m + 1 := ⟨k - 1, by omega⟩
    simp only [spec_l03Put.l0]
    rw [if_neg (by omega)]
    simp [be]
  | succ n ih =>
    intro k x hn hx hk
    obtain ⟨k, rfl⟩ : ∃ m, k = m + 1 := ⟨k - 1, by omega⟩
    simp only [spec_l03Put.l0]
    have h8 : IntKind.u64.wrap (wrap64 (8 * (((n + 1 : Nat) : Int) - 1))) = ((8 * n : Nat) : Int) := by
      rw [wr64 (by omega)]
      simp only [IntKind.wrap, IntKind.bits, IntKind.signed]
      simp
      omega
    rw [if_pos (by omega), h8, if_pos (by omega), if_pos (by omega), wr64 (by omega), show ((n + 1 : Nat) : Int) - 1 - 1 = (n : Int) - 1 from by omega]
    rw [ih k _ (by omega) (by simp; omega) (by omega)]
    unfold shr
    rw [show min ((8 * n : Nat) : Int).toNat IntKind.i64.bits = 8 * n from by rw [Int.toNat_natCast]; show min (8 * n) 64 = 8 * n; omega]
    simp [be, List.append_assoc]
theorem sput_f {v : Int} {n : Nat} (hn : n ≤ 8) {k : Nat} (hk : n < k) : spec_l03Put.f k v (n : Int) = some (be n v) := by
  unfold spec_l03Put.f
  rw [wr64 (by omega), sput_l v n k [] hn (by simp; omega) hk]
  rfl

/-! ### carried -/
theorem wrap_u64 (n : Int) : IntKind.u64.wrap n = n % 18446744073709551616 := by simp [IntKind.wrap, IntKind.bits, IntKind.signed]
theorem wru {x : Int} (h : 0 ≤ x ∧ x < 18446744073709551616) : IntKind.u64.wrap x = x := by rw [wrap_u64]; omega
theorem wraps_u64 (n : Int) (h₀ : 0 ≤ n) (h₁ : n < 2 ^ 63) : IntKind.u64.wrap n = n := by rw [wrap_u64]; omega
theorem low_u64 (i : Nat) (hi : i ≤ 62) (x : Int) (h0 : 0 ≤ x) (h1 : x < 18446744073709551616) : Go.bits .and .u64 x (2 ^ i - 1) = x % 2 ^ i := by
  obtain ⟨a, rfl⟩ := Int.eq_ofNat_of_zero_le h0
  have hpos : 0 < 2 ^ i := Nat.two_pow_pos i
  have h62 : 2 ^ i ≤ 2 ^ 62 := Nat.pow_le_pow_right (by decide) hi
  have hc : ((2 : Int) ^ i - 1) = ((2 ^ i - 1 : Nat) : Int) := by
    rw [Int.natCast_sub hpos]; simp
  have hw : ∀ n : Int, 0 ≤ n → n < 2 ^ 64 → IntKind.u64.wrap n = n := fun n a b => by rw [wrap_u64]; omega
  rw [hc, (bits_nat .u64 64 (by decide) hw a _ (by omega) (by omega)).1, Nat.and_two_pow_sub_one_eq_mod]
  simp
theorem u64_65535 (x : Int) (h0 : 0 ≤ x) (h1 : x < 18446744073709551616) : Go.bits .and .u64 x 65535 = x % 65536 := low_u64 16 (by decide) x h0 h1
theorem not_u64 (x : Int) (h0 : 0 ≤ x) (h1 : x < 18446744073709551616) : Go.bits .xor .u64 18446744073709551615 x = 18446744073709551615 - x := by
  obtain ⟨a, rfl⟩ := Int.eq_ofNat_of_zero_le h0
  have key : Go.bits .xor .u64 18446744073709551615 (a : Int) = IntKind.u64.wrap ((BitVec.ofInt 64 18446744073709551615 ^^^ BitVec.ofInt 64 (a : Int)).toNat : Int) := rfl
  rw [key, show BitVec.ofInt 64 18446744073709551615 = BitVec.allOnes 64 from by decide, BitVec.allOnes_xor, BitVec.toNat_not, BitVec.ofInt_natCast, BitVec.toNat_ofNat, wrap_u64]
  omega
theorem not_i64 (x : Int) (h : -9223372036854775808 ≤ x ∧ x ≤ 9223372036854775807) : Go.bits .xor .i64 (-1) x = -1 - x := by
  have key : Go.bits .xor .i64 (-1) x = IntKind.i64.wrap ((BitVec.ofInt 64 (-1) ^^^ BitVec.ofInt 64 x).toNat : Int) := rfl
  rw [key, show BitVec.ofInt 64 (-1) = BitVec.allOnes 64 from by decide, BitVec.allOnes_xor, BitVec.toNat_not, BitVec.toNat_ofInt, IntKind.wrap_i64]
  omega
theorem carried_f {s : Int} (h0 : 0 ≤ s) (h1 : s < 281474976710656) {k : Nat} (hk : 8 ≤ k) : impl_carried.f k s = some (fold s) := by
  have h8 : impl_carried.f 8 s = some (fold s) := by
    unfold impl_carried.f
    have step : ∀ (k : Nat) (t : Int), 0 ≤ t → t < 281474976710656 → t > 65535 → impl_carried.l0 (k + 1) t = impl_carried.l0 k (t / 65536 + t % 65536) := by
      intro k t a b c
      simp only [impl_carried.l0]
      rw [if_pos c, u64_65535 _ a (by omega), wrap_u64, Int.emod_eq_of_lt (by omega) (by omega)]
    have stop : ∀ (k : Nat) (t : Int), 0 ≤ t → t ≤ 65535 → impl_carried.l0 (k + 1) t = some (fold t) := by
      intro k t a b
      simp only [impl_carried.l0]
      rw [if_neg (by omega), fold_low ⟨a, b⟩]
    by_cases a1 : s > 65535
    · rw [step 7 s h0 h1 a1, ← fold_step a1]
      generalize hs : s / 65536 + s % 65536 = s1
      have b1 : 0 ≤ s1 ∧ s1 < 4295032832 := by omega
      by_cases a2 : s1 > 65535
      · rw [step 6 s1 (by omega) (by omega) a2, ← fold_step a2]
        generalize hs2 : s1 / 65536 + s1 % 65536 = s2
        have b2 : 0 ≤ s2 ∧ s2 < 196608 := by omega
        by_cases a3 : s2 > 65535
        · rw [step 5 s2 (by omega) (by omega) a3, ← fold_step a3]
          generalize hs3 : s2 / 65536 + s2 % 65536 = s3
          have b3 : 0 ≤ s3 ∧ s3 < 65540 := by omega
          by_cases a4 : s3 > 65535
          · rw [step 4 s3 (by omega) (by omega) a4, ← fold_step a4]
            exact stop 3 _ (by omega) (by omega)
          · exact stop 4 _ (by omega) (by omega)
        · exact stop 5 _ (by omega) (by omega)
      · exact stop 6 _ (by omega) (by omega)
    · exact stop 7 _ (by omega) (by omega)
  exact at_rounds (fun k => impl_carried.mono s k) hk h8

/-! ### implsum -/
theorem isum_l (l : List Int) (hb : Bs l) (hn : l.length ≤ 1048576) (d : Nat) : ∀ (k i : Nat) (s : Int), i + d = l.length → d + 8 < k → 0 ≤ s → s + 65280 * (d : Int) < 281474976710656 → impl_Checksum.l0 k s l (l.length : Int) (i : Int) = some (65535 - fold (s + wsp (i % 2 == 0) (l.drop i))) := by
  induction d with
  | zero =>
    intro k i s hi hk h0 h1
    obtain ⟨k, rfl⟩ : ∃ m, k = m + 1 := ⟨k - 1, by omega⟩
    simp only [impl_Checksum.l0]
    rw [if_neg (by omega), List.drop_eq_nil_of_le (by omega), carried_f h0 (by omega) (by omega)]
    have e : ∀ b, wsp b [] = 0 := fun b => by cases b <;> rfl
    rw [e]
    simp only [Option.bind_some, Int.add_zero]
    have fl := fold_le s h0
    rw [not_u64 _ fl.1 (by omega), u64_65535 _ (by omega) (by omega), wr64 (by omega)]
    congr 1
    omega
  | succ d ih =>
    intro k i s hi hk h0 h1
    obtain ⟨k, rfl⟩ : ∃ m, k = m + 1 := ⟨k - 1, by omega⟩
    have c1 : i < l.length := by omega
    have b1 := hb.get c1
    simp only [impl_Checksum.l0]
    rw [if_pos (by omega), if_pos (by omega), if_pos (by omega), rd_at c1, tm_pos _ (by omega), wr_succ c1 (by omega), drop_cons c1, wrap_u64 l[i], Int.emod_eq_of_lt b1.1 (by omega)]
    by_cases c2 : i % 2 = 0
    · rw [if_pos (by omega), wrap_u64 (l[i] * 256), Int.emod_eq_of_lt (by omega) (by omega), wrap_u64, Int.emod_eq_of_lt (by omega) (by omega), ih k (i + 1) _ (by omega) (by omega) (by omega) (by omega)]
      rw [show (i % 2 == 0) = true from by simp [c2], show ((i + 1) % 2 == 0) = false from by simp; omega]
      simp only [wsp]
      congr 3
      omega
    · rw [if_neg (by omega), wrap_u64, Int.emod_eq_of_lt (by omega) (by omega), ih k (i + 1) _ (by omega) (by omega) (by omega) (by omega)]
      rw [show (i % 2 == 0) = false from by simp; omega, show ((i + 1) % 2 == 0) = true from by simp; omega]
      simp only [wsp]
      congr 3
      omega
theorem icheck_f {l : List Int} (hb : Bs l) (hn : l.length ≤ 1048576) {k : Nat} (hk : l.length + 8 < k) : impl_Checksum.f k l = some (csum l) := by
  unfold impl_Checksum.f
  have h := isum_l l hb hn l.length k 0 0 (by omega) hk (by omega) (by omega)
  rw [show ((0 : Nat) : Int) = 0 from rfl] at h
  rw [h]
  simp only [List.drop_zero, Int.zero_add]
  rfl

/-! ### implput -/
theorem iput_l (v : Int) (n : Nat) : ∀ (k : Nat) (x : List Int), n ≤ 8 → x.length + n ≤ 1048576 → n < k → impl_put.l0 k x v ((n : Int) - 1) = some (x ++ be n v) := by
  induction n with
  | zero =>
    intro k x hn hx hk
    obtain ⟨k, rfl⟩ : ∃ m, k = m + 1 := ⟨k - 1, by omega⟩
    simp only [impl_put.l0]
    rw [if_neg (by omega)]
    simp [be]
  | succ n ih =>
    intro k x hn hx hk
    obtain ⟨k, rfl⟩ : ∃ m, k = m + 1 := ⟨k - 1, by omega⟩
    simp only [impl_put.l0]
    have h8 : wrap64 (8 * (((n + 1 : Nat) : Int) - 1)) = ((8 * n : Nat) : Int) := by
      rw [wr64 (by omega)]
      omega
    rw [if_pos (by omega), h8, if_pos (by omega), if_pos (by omega), wr64 (by omega), show ((n + 1 : Nat) : Int) - 1 - 1 = (n : Int) - 1 from by omega]
    rw [ih k _ (by omega) (by simp; omega) (by omega)]
    unfold shr
    rw [show min ((8 * n : Nat) : Int).toNat IntKind.u64.bits = 8 * n from by rw [Int.toNat_natCast]; show min (8 * n) 64 = 8 * n; omega]
    have hw : IntKind.u64.wrap v = v % 18446744073709551616 := by simp [IntKind.wrap, IntKind.bits, IntKind.signed]
    have hb : v % 18446744073709551616 / 2 ^ (8 * n) % 256 = v / 2 ^ (8 * n) % 256 := by
      rcases (show n = 0 ∨ n = 1 ∨ n = 2 ∨ n = 3 ∨ n = 4 ∨ n = 5 ∨ n = 6 ∨ n = 7 by omega) with rfl | rfl | rfl | rfl | rfl | rfl | rfl | rfl <;> simp <;> omega
    rw [hw, hb]
    simp [be, List.append_assoc]
theorem iput_f {l : List Int} {v : Int} {n : Nat} (hn : n ≤ 8) (hl : l.length + n ≤ 1048576) {k : Nat} (hk : n < k) : impl_put.f k l (n : Int) v = some (l ++ be n v) := by
  unfold impl_put.f
  rw [wr64 (by omega), iput_l v n k l hn hl hk]

/-! ### falsehead -/
def fhead (a b c d : Int) : List Int := be 4 a ++ be 4 b ++ [0, c % 256] ++ be 2 d
theorem fhead_len (a b c d : Int) : (fhead a b c d).length = 12 := by simp [fhead, be_len]
theorem sfh_f (a b c d : Int) {k : Nat} (hk : 40 ≤ k) : spec_FalseHead.f k a b c d = some (fhead a b c d) := by
  unfold spec_FalseHead.f fhead
  rw [show (4 : Int) = ((4 : Nat) : Int) from rfl, show (2 : Int) = ((2 : Nat) : Int) from rfl, sput_f (by omega) (by omega), sput_f (by omega) (by omega), sput_f (by omega) (by omega)]
  simp only [Option.bind_some]
  rw [join_f (by simp [be_len]) (by simp [be_len]) (by simp [be_len]; omega) (by simp [be_len]; omega)]
  simp only [Option.bind_some]
  rw [join_f (by simp [be_len]) (by simp) (by simp [be_len]; omega) (by simp; omega)]
  simp only [Option.bind_some]
  rw [join_f (by simp [be_len]) (by simp [be_len]) (by simp [be_len]; omega) (by simp [be_len]; omega)]
  rfl
theorem ifh_f (a b c d : Int) {k : Nat} (hk : 40 ≤ k) : impl_FalseHead.f k a b c d = some (fhead a b c d) := by
  unfold impl_FalseHead.f fhead
  rw [show (4 : Int) = ((4 : Nat) : Int) from rfl, show (2 : Int) = ((2 : Nat) : Int) from rfl, iput_f (by omega) (by simp) (by omega)]
  simp only [Option.bind_some, List.nil_append]
  rw [iput_f (by omega) (by simp [be_len]) (by omega)]
  simp only [Option.bind_some]
  rw [if_pos (by simp [be_len]), iput_f (by omega) (by simp [be_len]) (by omega)]
  rfl
theorem fhead_bytes (a b c d : Int) : Bs (fhead a b c d) := by
  unfold fhead
  refine Bs.append (Bs.append (Bs.append (be_bytes _ _) (be_bytes _ _)) ?_) (be_bytes _ _)
  intro x hx
  simp only [List.mem_cons, List.not_mem_nil, or_false] at hx
  rcases hx with rfl | rfl <;> omega

/-! ### l10sum -/
theorem l10_f {l : List Int} (hb : Bs l) (hn : l.length ≤ 1000000) (a b c : Int) {k : Nat} (hk : l.length + 40 ≤ k) : spec_l10Sum.f k l a b c = some (csum (fhead a b c (l.length : Int) ++ l)) := by
  unfold spec_l10Sum.f
  have hl := fhead_len a b c (l.length : Int)
  rw [sfh_f _ _ _ _ (by omega)]
  simp only [Option.bind_some]
  rw [join_f (by omega) (by omega) (by omega) (by omega)]
  simp only [Option.bind_some]
  rw [scheck_f ((fhead_bytes _ _ _ _).append hb) (by simp; omega) (by simp; omega)]
  rfl

/-! ### encseg -/
theorem portOK_f (a : Int) : spec_l10PortOK.f a = some (decide (0 ≤ a ∧ a ≤ 65535)) := by
  unfold spec_l10PortOK.f
  rw [in_f]
  rfl
theorem isPort_f (a : Int) : impl_isPort.f a = some (decide (0 ≤ a ∧ a ≤ 65535)) := by
  unfold impl_isPort.f
  by_cases h : a ≥ 0
  · rw [if_pos h]; congr 1; rw [decide_eq_decide]; omega
  · rw [if_neg h]; congr 1; rw [eq_comm, decide_eq_false_iff_not]; omega
theorem seqOK_f (a : Int) : spec_l11Seq.f a = some (decide (0 ≤ a ∧ a ≤ 4294967295)) := by
  unfold spec_l11Seq.f
  rw [addrOK_f]
  rfl
theorem isSeq_f (a : Int) : impl_isSeq.f a = some (decide (0 ≤ a ∧ a ≤ 4294967295)) := by
  unfold impl_isSeq.f
  by_cases h : a ≥ 0
  · rw [if_pos h]; congr 1; rw [decide_eq_decide]; omega
  · rw [if_neg h]; congr 1; rw [eq_comm, decide_eq_false_iff_not]; omega
def sOK (x : S157) : Bool := decide (0 ≤ x.f0 ∧ x.f0 ≤ 4294967295) && decide (0 ≤ x.f1 ∧ x.f1 ≤ 4294967295)
theorem rdS {l : List S157} {i : Nat} (h : i < l.length) : rd_T157 l (i : Int) = l[i] := by
  unfold rd_T157
  rw [Int.toNat_natCast, List.getD_eq_getElem?_getD, List.getElem?_eq_getElem h]
  rfl
theorem sOKl (s : List S157) (hn : s.length ≤ 1048576) (a0 a1 a2 a3 a4 a5 a6 : Int) (b7 : Bool) (a8 : Int) (b9 : Bool) (p : List Int) (d : Nat) : ∀ (k i : Nat), i + d = s.length → d < k → spec_l11OK.l0 k (i : Int) a0 a1 a2 a3 a4 a5 a6 b7 a8 b9 s p = some ((s.drop i).all sOK) := by
  induction d with
  | zero =>
    intro k i hi hk
    obtain ⟨k, rfl⟩ : ∃ m, k = m + 1 := ⟨k - 1, by omega⟩
    rw [spec_l11OK.l0, if_neg (by omega), List.drop_eq_nil_of_le (by omega)]
    rfl
  | succ d ih =>
    intro k i hi hk
    obtain ⟨k, rfl⟩ : ∃ m, k = m + 1 := ⟨k - 1, by omega⟩
    rw [spec_l11OK.l0, if_pos (by omega), if_pos (by omega), rdS (by omega), wr_succ (n := s.length) (by omega) (by omega), ih k (i + 1) (by omega) (by omega), seqOK_f, seqOK_f, List.drop_eq_getElem_cons (show i < s.length by omega), List.all_cons]
    simp only [Option.bind_some, sOK]
    by_cases h1 : 0 ≤ (s[i]'(by omega)).f0 ∧ (s[i]'(by omega)).f0 ≤ 4294967295
    · by_cases h2 : 0 ≤ (s[i]'(by omega)).f1 ∧ (s[i]'(by omega)).f1 ≤ 4294967295 <;> simp [h1, h2]
    · simp [h1]
theorem iOKl (s : List S157) (hn : s.length ≤ 1048576) (d : Nat) : ∀ (k i : Nat), i + d = s.length → d < k → impl_okSegment.l0 k s (s.length : Int) (i : Int) = some ((s.drop i).all sOK) := by
  induction d with
  | zero =>
    intro k i hi hk
    obtain ⟨k, rfl⟩ : ∃ m, k = m + 1 := ⟨k - 1, by omega⟩
    rw [impl_okSegment.l0, if_neg (by omega), List.drop_eq_nil_of_le (by omega)]
    rfl
  | succ d ih =>
    intro k i hi hk
    obtain ⟨k, rfl⟩ : ∃ m, k = m + 1 := ⟨k - 1, by omega⟩
    rw [impl_okSegment.l0, if_pos (by omega), if_pos (by omega), if_pos (by omega), rdS (by omega), wr_succ (n := s.length) (by omega) (by omega), ih k (i + 1) (by omega) (by omega), isSeq_f, isSeq_f, List.drop_eq_getElem_cons (show i < s.length by omega), List.all_cons]
    simp only [Option.bind_some, sOK]
    by_cases h1 : 0 ≤ (s[i]'(by omega)).f0 ∧ (s[i]'(by omega)).f0 ≤ 4294967295
    · by_cases h2 : 0 ≤ (s[i]'(by omega)).f1 ∧ (s[i]'(by omega)).f1 ≤ 4294967295 <;> simp [h1, h2]
    · simp [h1]
def okG0 (a0 a1 a2 a3 a4 a5 a6 : Int) (b7 : Bool) (a8 : Int) (n : Nat) : Prop := (0 ≤ a0 ∧ a0 ≤ 65535) ∧ (0 ≤ a1 ∧ a1 ≤ 65535) ∧ (0 ≤ a2 ∧ a2 ≤ 4294967295) ∧ (0 ≤ a3 ∧ a3 ≤ 4294967295) ∧ (0 ≤ a4 ∧ a4 ≤ 63) ∧ (0 ≤ a5 ∧ a5 ≤ 65535) ∧ (0 ≤ a6 ∧ a6 ≤ 65535) ∧ (0 ≤ a8 ∧ a8 ≤ 14) ∧ (b7 = true ∨ a8 = 0) ∧ n ≤ 3
instance (a0 a1 a2 a3 a4 a5 a6 : Int) (b7 : Bool) (a8 : Int) (n : Nat) : Decidable (okG0 a0 a1 a2 a3 a4 a5 a6 b7 a8 n) := by unfold okG0; exact inferInstance
def okG (a0 a1 a2 a3 a4 a5 a6 : Int) (b7 : Bool) (a8 : Int) (s : List S157) : Bool := decide (okG0 a0 a1 a2 a3 a4 a5 a6 b7 a8 s.length) && s.all sOK
theorem sOK_f (a0 a1 a2 a3 a4 a5 a6 : Int) (b7 : Bool) (a8 : Int) (b9 : Bool) {s : List S157} (p : List Int) (hs : s.length ≤ 1048576) {k : Nat} (hk : s.length + 2 ≤ k) : spec_l11OK.f k a0 a1 a2 a3 a4 a5 a6 b7 a8 b9 s p = some (okG a0 a1 a2 a3 a4 a5 a6 b7 a8 s) := by
  obtain ⟨k, rfl⟩ : ∃ m, k = m + 1 := ⟨k - 1, by omega⟩
  have hl := sOKl s hs a0 a1 a2 a3 a4 a5 a6 b7 a8 b9 p s.length k 0 (by omega) (by omega)
  simp only [List.drop_zero] at hl
  have hj : ∀ c : Bool, spec_l11OK.j0 (k + 1) c a0 a1 a2 a3 a4 a5 a6 b7 a8 b9 s p = some (!c && s.all sOK) := by
    intro c
    rw [spec_l11OK.j0]
    cases c with
    | true => rfl
    | false => exact hl
  unfold spec_l11OK.f okG
  simp only [portOK_f, seqOK_f, in_f, Option.bind_some, hj, decide_eq_true_eq]
  by_cases h : okG0 a0 a1 a2 a3 a4 a5 a6 b7 a8 s.length
  · rw [decide_eq_true h]
    obtain ⟨h0, h1, h2, h3, h4, h5, h6, h8, h7, hn⟩ := h
    rw [if_pos h0, if_pos h1, if_pos h2, if_pos h3, if_pos h4, if_pos h5, if_pos h6, if_pos h8]
    have hd : decide ((s.length : Int) > 3) = false := decide_eq_false (by omega)
    rw [hd]
    rcases h7 with h7 | h7
    · rw [if_pos h7]; rfl
    · rw [if_pos h7, ite_self]; rfl
  · rw [decide_eq_false h]
    repeat' split
    all_goals first
      | rfl
      | (have hd : decide ((s.length : Int) > 3) = true := decide_eq_true (by
          rcases Nat.lt_or_ge 3 s.length with h9 | h9
          · omega
          · exact absurd (⟨by assumption, by assumption, by assumption, by assumption, by assumption, by assumption, by assumption, by assumption, by first | exact Or.inl (by assumption) | exact Or.inr (by assumption), h9⟩ : okG0 a0 a1 a2 a3 a4 a5 a6 b7 a8 s.length) h)
         rw [hd]; rfl)
theorem ite_f {p : Prop} [Decidable p] {x y : Option Bool} (hy : y = some false) (hx : p → x = some false) : (if p then x else y) = some false := by
  by_cases h : p
  · rw [if_pos h]; exact hx h
  · rw [if_neg h]; exact hy
theorem ite_g {p : Prop} [Decidable p] {x y : Option Bool} (hx : x = some false) (hy : ¬ p → y = some false) : (if p then x else y) = some false := by
  by_cases h : p
  · rw [if_pos h]; exact hx
  · rw [if_neg h]; exact hy h
theorem iOK_f (a0 a1 a2 a3 a4 a5 a6 : Int) (b7 : Bool) (a8 : Int) (b9 : Bool) {s : List S157} (p : List Int) (hs : s.length ≤ 1048576) {k : Nat} (hk : s.length + 2 ≤ k) : impl_okSegment.f k a0 a1 a2 a3 a4 a5 a6 b7 a8 b9 s p = some (okG a0 a1 a2 a3 a4 a5 a6 b7 a8 s) := by
  obtain ⟨k, rfl⟩ : ∃ m, k = m + 1 := ⟨k - 1, by omega⟩
  have hl := iOKl s hs s.length k 0 (by omega) (by omega)
  simp only [List.drop_zero] at hl
  have hj : ∀ c : Bool, impl_okSegment.j0 (k + 1) c a0 a1 a2 a3 a4 a5 a6 b7 a8 b9 s p = some (!c && s.all sOK) := by
    intro c
    rw [impl_okSegment.j0]
    cases c with
    | true => rfl
    | false => exact hl
  unfold impl_okSegment.f okG
  simp only [isPort_f, isSeq_f, Option.bind_some, hj, decide_eq_true_eq]
  by_cases h : okG0 a0 a1 a2 a3 a4 a5 a6 b7 a8 s.length
  · rw [decide_eq_true h]
    obtain ⟨h0, h1, h2, h3, h4, h5, h6, h8, h7, hn⟩ := h
    rw [if_pos h0, if_pos h1, if_pos h2, if_pos h3, if_neg (show ¬ a4 < 0 by omega), if_neg (show ¬ a4 > 63 by omega), if_pos h5, if_pos h6, if_neg (show ¬ a8 < 0 by omega), if_neg (show ¬ a8 > 14 by omega)]
    have hd : decide ((s.length : Int) > 3) = false := decide_eq_false (by omega)
    rw [hd]
    rcases h7 with h7 | h7
    · rw [if_pos h7]; rfl
    · rw [if_pos h7, ite_self]; rfl
  · rw [decide_eq_false h]
    show _ = some false
    refine ite_f rfl fun h0 => ite_f rfl fun h1 => ite_f rfl fun h2 => ite_f rfl fun h3 => ite_g rfl fun h4 => ite_g rfl fun h4' => ite_f rfl fun h5 => ite_f rfl fun h6 => ite_g rfl fun h8 => ite_g rfl fun h8' => ?_
    have last : (b7 = true ∨ a8 = 0) → some (!decide ((s.length : Int) > 3) && s.all sOK) = some false := by
      intro h7
      have hd : decide ((s.length : Int) > 3) = true := decide_eq_true (by
        rcases Nat.lt_or_ge 3 s.length with h9 | h9
        · omega
        · exact absurd (⟨h0, h1, h2, h3, by omega, h5, h6, by omega, h7, h9⟩ : okG0 a0 a1 a2 a3 a4 a5 a6 b7 a8 s.length) h)
      rw [hd]
      rfl
    by_cases h7 : b7 = true
    · rw [if_pos h7]
      exact last (.inl h7)
    · rw [if_neg h7]
      exact ite_f rfl fun h7' => last (.inr h7')
def gopt0 (a6 : Int) : List Int := if a6 = 0 then [] else [2, 4] ++ be 2 a6
def gopt1 (x : List Int) (b7 : Bool) (a8 : Int) : List Int := if b7 = true then x ++ [1, 3, 3, a8 % 256] else x
def gopt2 (x : List Int) (b9 : Bool) : List Int := if b9 = true then x ++ [1, 1, 4, 2] else x
def gopt3 (x : List Int) (n : Nat) : List Int := if (n : Int) > 0 then x ++ [1, 1, 5, (2 + 8 * (n : Int)) % 256] else x
def sbody : List S157 → List Int
  | [] => []
  | x :: r => be 4 x.f0 ++ be 4 x.f1 ++ sbody r
def gopt (a6 : Int) (b7 : Bool) (a8 : Int) (b9 : Bool) (s : List S157) : List Int := gopt3 (gopt2 (gopt1 (gopt0 a6) b7 a8) b9) s.length ++ sbody s
theorem gopt0_len (a6 : Int) : (gopt0 a6).length ≤ 4 := by unfold gopt0; split <;> simp [be_len]
theorem gopt1_len (x : List Int) (b7 : Bool) (a8 : Int) : (gopt1 x b7 a8).length ≤ x.length + 4 := by unfold gopt1; split <;> simp
theorem gopt2_len (x : List Int) (b9 : Bool) : (gopt2 x b9).length ≤ x.length + 4 := by unfold gopt2; split <;> simp
theorem gopt3_len (x : List Int) (n : Nat) : (gopt3 x n).length ≤ x.length + 4 := by unfold gopt3; split <;> simp
theorem sbody_len (s : List S157) : (sbody s).length = 8 * s.length := by
  induction s with
  | nil => rfl
  | cons x r ih => simp [sbody, be_len, ih]; omega
theorem gopt_len (a6 : Int) (b7 : Bool) (a8 : Int) (b9 : Bool) {s : List S157} (hs : s.length ≤ 3) : (gopt a6 b7 a8 b9 s).length ≤ 40 := by
  have h0 := gopt0_len a6
  have h1 := gopt1_len (gopt0 a6) b7 a8
  have h2 := gopt2_len (gopt1 (gopt0 a6) b7 a8) b9
  have h3 := gopt3_len (gopt2 (gopt1 (gopt0 a6) b7 a8) b9) s.length
  have h4 := sbody_len s
  unfold gopt
  rw [List.length_append]
  omega
theorem lit_bytes {a b c d : Int} (ha : 0 ≤ a ∧ a ≤ 255) (hb : 0 ≤ b ∧ b ≤ 255) (hc : 0 ≤ c ∧ c ≤ 255) (hd : 0 ≤ d ∧ d ≤ 255) : Bs [a, b, c, d] := by
  intro x hx
  simp only [List.mem_cons, List.not_mem_nil, or_false] at hx
  rcases hx with rfl | rfl | rfl | rfl <;> assumption
theorem sbody_bytes (s : List S157) : Bs (sbody s) := by
  induction s with
  | nil => intro x hx; cases hx
  | cons x r ih => exact Bs.append (Bs.append (be_bytes _ _) (be_bytes _ _)) ih
theorem gopt_bytes (a6 : Int) (b7 : Bool) (a8 : Int) (b9 : Bool) (s : List S157) : Bs (gopt a6 b7 a8 b9 s) := by
  have h0 : Bs (gopt0 a6) := by
    unfold gopt0
    split
    · intro x hx; cases hx
    · refine Bs.append ?_ (be_bytes _ _)
      intro x hx
      simp only [List.mem_cons, List.not_mem_nil, or_false] at hx
      rcases hx with rfl | rfl <;> omega
  have h1 : Bs (gopt1 (gopt0 a6) b7 a8) := by
    unfold gopt1
    split
    · exact Bs.append h0 (lit_bytes (by omega) (by omega) (by omega) (by omega))
    · exact h0
  have h2 : Bs (gopt2 (gopt1 (gopt0 a6) b7 a8) b9) := by
    unfold gopt2
    split
    · exact Bs.append h1 (lit_bytes (by omega) (by omega) (by omega) (by omega))
    · exact h1
  unfold gopt
  refine Bs.append ?_ (sbody_bytes s)
  unfold gopt3
  split
  · exact Bs.append h2 (lit_bytes (by omega) (by omega) (by omega) (by omega))
  · exact h2
theorem sopt_l (a0 a1 a2 a3 a4 a5 a6 : Int) (b7 : Bool) (a8 : Int) (b9 : Bool) (s : List S157) (p : List Int) (hn : s.length ≤ 3) (d : Nat) : ∀ (k i : Nat) (x : List Int), i + d = s.length → d + 200 ≤ k → x.length + 8 * d ≤ 100 → spec_l11Options.l0 k x (i : Int) a0 a1 a2 a3 a4 a5 a6 b7 a8 b9 s p = some (x ++ sbody (s.drop i)) := by
  induction d with
  | zero =>
    intro k i x hi hk hx
    obtain ⟨k, rfl⟩ : ∃ m, k = m + 1 := ⟨k - 1, by omega⟩
    rw [spec_l11Options.l0, if_neg (by omega), List.drop_eq_nil_of_le (by omega)]
    simp [sbody]
  | succ d ih =>
    intro k i x hi hk hx
    obtain ⟨k, rfl⟩ : ∃ m, k = m + 1 := ⟨k - 1, by omega⟩
    have e4 : ∀ v, spec_l03Put.f k v 4 = some (be 4 v) := fun v => sput_f (n := 4) (by omega) (by omega)
    rw [spec_l11Options.l0, if_pos (by omega), if_pos (by omega), rdS (by omega), wr_succ (n := s.length) (by omega) (by omega), e4, e4]
    simp only [Option.bind_some]
    rw [join_f (by omega) (by simp [be_len]) (by omega) (by simp [be_len]; omega)]
    simp only [Option.bind_some]
    rw [join_f (by simp [be_len]; omega) (by simp [be_len]) (by simp [be_len]; omega) (by simp [be_len]; omega)]
    simp only [Option.bind_some]
    rw [ih k (i + 1) _ (by omega) (by omega) (by simp [be_len]; omega), List.drop_eq_getElem_cons (show i < s.length by omega), sbody]
    simp only [List.append_assoc]
theorem sopt_f (a0 a1 a2 a3 a4 a5 a6 : Int) (b7 : Bool) (a8 : Int) (b9 : Bool) {s : List S157} (p : List Int) (hn : s.length ≤ 3) {k : Nat} (hk : 300 ≤ k) : spec_l11Options.f k a0 a1 a2 a3 a4 a5 a6 b7 a8 b9 s p = some (gopt a6 b7 a8 b9 s) := by
  obtain ⟨k, rfl⟩ : ∃ m, k = m + 1 + 1 + 1 + 1 := ⟨k - 4, by omega⟩
  have j3 : ∀ x : List Int, x.length ≤ 16 → spec_l11Options.j3 (k + 1) x a0 a1 a2 a3 a4 a5 a6 b7 a8 b9 s p = some (x ++ sbody s) := by
    intro x hx
    rw [spec_l11Options.j3]
    exact sopt_l a0 a1 a2 a3 a4 a5 a6 b7 a8 b9 s p hn s.length k 0 x (by omega) (by omega) (by omega)
  have j2 : ∀ x : List Int, x.length ≤ 12 → spec_l11Options.j2 (k + 1 + 1) x a0 a1 a2 a3 a4 a5 a6 b7 a8 b9 s p = some (gopt3 x s.length ++ sbody s) := by
    intro x hx
    rw [spec_l11Options.j2, wr64 (a := 8 * (s.length : Int)) (by omega), wr64 (a := 2 + 8 * (s.length : Int)) (by omega)]
    unfold gopt3
    by_cases h : (s.length : Int) > 0
    · rw [if_pos h, if_pos h, join_f (by omega) (by simp) (by omega) (by simp; omega)]
      simp only [Option.bind_some]
      exact j3 _ (by simp; omega)
    · rw [if_neg h, if_neg h]
      exact j3 _ (by omega)
  have j1 : ∀ x : List Int, x.length ≤ 8 → spec_l11Options.j1 (k + 1 + 1 + 1) x a0 a1 a2 a3 a4 a5 a6 b7 a8 b9 s p = some (gopt3 (gopt2 x b9) s.length ++ sbody s) := by
    intro x hx
    rw [spec_l11Options.j1]
    unfold gopt2
    by_cases h : b9 = true
    · rw [if_pos h, if_pos h, join_f (by omega) (by simp) (by omega) (by simp; omega)]
      simp only [Option.bind_some]
      exact j2 _ (by simp; omega)
    · rw [if_neg h, if_neg h]
      exact j2 _ (by omega)
  have j0 : ∀ x : List Int, x.length ≤ 4 → spec_l11Options.j0 (k + 1 + 1 + 1 + 1) x a0 a1 a2 a3 a4 a5 a6 b7 a8 b9 s p = some (gopt3 (gopt2 (gopt1 x b7 a8) b9) s.length ++ sbody s) := by
    intro x hx
    rw [spec_l11Options.j0]
    unfold gopt1
    by_cases h : b7 = true
    · rw [if_pos h, if_pos h, join_f (by omega) (by simp) (by omega) (by simp; omega)]
      simp only [Option.bind_some]
      exact j1 _ (by simp; omega)
    · rw [if_neg h, if_neg h]
      exact j1 _ (by omega)
  unfold spec_l11Options.f gopt gopt0
  by_cases h : a6 = 0
  · rw [if_pos h, if_pos h]
    exact j0 [] (by simp)
  · rw [if_neg h, if_neg h, show spec_l03Put.f (k + 1 + 1 + 1 + 1) a6 2 = some (be 2 a6) from sput_f (n := 2) (by omega) (by omega)]
    simp only [Option.bind_some]
    rw [join_f (by simp) (by simp [be_len]) (by simp <;> omega) (by simp [be_len] <;> omega)]
    simp only [Option.bind_some]
    exact j0 _ (by simp [be_len])
def gseg (a0 a1 a2 a3 a4 a5 : Int) (o p : List Int) : List Int := be 2 a0 ++ be 2 a1 ++ be 4 a2 ++ be 4 a3 ++ [((20 + (o.length : Int)) / 4 * 16) % 256, a4 % 256] ++ be 2 a5 ++ [0, 0, 0, 0] ++ o ++ p
theorem gseg_len (a0 a1 a2 a3 a4 a5 : Int) (o p : List Int) : (gseg a0 a1 a2 a3 a4 a5 o p).length = 20 + o.length + p.length := by
  simp [gseg, be_len]
  omega
theorem gseg_bytes (a0 a1 a2 a3 a4 a5 : Int) {o p : List Int} (ho : Bs o) (hp : Bs p) : Bs (gseg a0 a1 a2 a3 a4 a5 o p) := by
  unfold gseg
  refine Bs.append (Bs.append (Bs.append (Bs.append (Bs.append (Bs.append (Bs.append (Bs.append (be_bytes _ _) (be_bytes _ _)) (be_bytes _ _)) (be_bytes _ _)) ?_) (be_bytes _ _)) (lit_bytes (by omega) (by omega) (by omega) (by omega))) ho) hp
  intro x hx
  simp only [List.mem_cons, List.not_mem_nil, or_false] at hx
  rcases hx with rfl | rfl <;> omega
def gsum (src dst : Int) (g : List Int) : Int := csum (fhead src dst 6 (g.length : Int) ++ g)
def gout (src dst : Int) (g : List Int) : List Int := (g.set (16 : Int).toNat ((gsum src dst g / 256) % 256)).set (17 : Int).toNat (gsum src dst g % 256)
theorem gout_len (src dst : Int) (g : List Int) : (gout src dst g).length = g.length := by simp [gout]
def gall (a0 a1 a2 a3 a4 a5 a6 : Int) (b7 : Bool) (a8 : Int) (b9 : Bool) (s : List S157) (p : List Int) (src dst : Int) : List Int × Int :=
  if okG a0 a1 a2 a3 a4 a5 a6 b7 a8 s = true ∧ (0 ≤ src ∧ src ≤ 4294967295) ∧ (0 ≤ dst ∧ dst ≤ 4294967295) then
    (if 20 + ((gopt a6 b7 a8 b9 s).length : Int) + (p.length : Int) > 65515 then ([], 7) else (gout src dst (gseg a0 a1 a2 a3 a4 a5 (gopt a6 b7 a8 b9 s) p), 0))
  else ([], 1)
theorem gall_len (a0 a1 a2 a3 a4 a5 a6 : Int) (b7 : Bool) (a8 : Int) (b9 : Bool) (s : List S157) (p : List Int) (src dst : Int) : (gall a0 a1 a2 a3 a4 a5 a6 b7 a8 b9 s p src dst).1.length ≤ 65535 := by
  unfold gall
  split
  · split
    · simp
    · simp only [gout_len, gseg_len]
      omega
  · simp
theorem okG_len {a0 a1 a2 a3 a4 a5 a6 : Int} {b7 : Bool} {a8 : Int} {s : List S157} (h : okG a0 a1 a2 a3 a4 a5 a6 b7 a8 s = true) : s.length ≤ 3 := by
  unfold okG at h
  rw [Bool.and_eq_true] at h
  have := of_decide_eq_true h.1
  unfold okG0 at this
  exact this.2.2.2.2.2.2.2.2.2
theorem gseg_as (a0 a1 a2 a3 a4 a5 : Int) (o p : List Int) : be 2 a0 ++ be 2 a1 ++ be 4 a2 ++ be 4 a3 ++ [((20 + (o.length : Int)) / 4 * 16) % 256, a4 % 256] ++ be 2 a5 ++ [0, 0, 0, 0] ++ (o ++ p) = gseg a0 a1 a2 a3 a4 a5 o p := by
  unfold gseg
  exact (List.append_assoc _ _ _).symm
theorem gout_def (src dst : Int) (g : List Int) : gout src dst g = (g.set (16 : Int).toNat ((csum (fhead src dst 6 (g.length : Int) ++ g) / 256) % 256)).set (17 : Int).toNat (csum (fhead src dst 6 (g.length : Int) ++ g) % 256) := by
  unfold gout gsum
  rfl
theorem tail_f (g : List Int) (c : Int) (h : 18 ≤ g.length) : (if 16 < (g.length : Int) then (if 17 < (g.length : Int) then (some (((g.set (16 : Int).toNat ((c / 256) % 256)).set (17 : Int).toNat ((c) % 256)), (0 : Int))) else (none)) else (none)) = some ((g.set (16 : Int).toNat ((c / 256) % 256)).set (17 : Int).toNat (c % 256), (0 : Int)) := by
  rw [if_pos (show (16 : Int) < (g.length : Int) by omega), if_pos (show (17 : Int) < (g.length : Int) by omega)]
theorem sseg_5 (a0 a1 a2 a3 a4 a5 a6 : Int) (b7 : Bool) (a8 : Int) (b9 : Bool) (s : List S157) {o p : List Int} (src dst : Int) (ho : o.length ≤ 40) (hob : Bs o) (hp : p.length ≤ 1048576) (hb : Bs p) {k : Nat} (hk : p.length + 400 ≤ k) (hopt : spec_l11Options.f k a0 a1 a2 a3 a4 a5 a6 b7 a8 b9 s p = some o) : spec_EncodeSegment.j0 (k + 1) src dst false a0 a1 a2 a3 a4 a5 a6 b7 a8 b9 s p = some (if 20 + (o.length : Int) + (p.length : Int) > 65515 then ([], 7) else (gout src dst (gseg a0 a1 a2 a3 a4 a5 o p), 0)) := by
  rw [spec_EncodeSegment.j0, if_neg (by simp), hopt, Option.bind_some]
  have hl := gseg_len a0 a1 a2 a3 a4 a5 o p
  rw [wr64 (a := 20 + (o.length : Int)) (by omega), wr64 (a := 20 + (o.length : Int) + (p.length : Int)) (by omega), td_pos (a := 20 + (o.length : Int)) 4 (by omega), wr64 (a := (20 + (o.length : Int)) / 4) (by omega), wr64 (a := (20 + (o.length : Int)) / 4 * 16) (by omega)]
  by_cases h : 20 + (o.length : Int) + (p.length : Int) > 65515
  · rw [if_pos h, if_pos h]
  · rw [if_neg h, if_neg h]
    have e2 : ∀ v, spec_l03Put.f k v 2 = some (be 2 v) := fun v => sput_f (n := 2) (by omega) (by omega)
    have e4 : ∀ v, spec_l03Put.f k v 4 = some (be 4 v) := fun v => sput_f (n := 4) (by omega) (by omega)
    simp only [e2, e4, Option.bind_some]
    rw [join_f (by simp [be_len]) (by simp [be_len]) (by simp [be_len]; omega) (by simp [be_len]; omega), Option.bind_some]
    rw [join_f (by simp [be_len]) (by simp [be_len]) (by simp [be_len]; omega) (by simp [be_len]; omega), Option.bind_some]
    rw [join_f (by simp [be_len]) (by simp [be_len]) (by simp [be_len]; omega) (by simp [be_len]; omega), Option.bind_some]
    rw [join_f (by simp [be_len]) (by simp) (by simp [be_len]; omega) (by simp; omega), Option.bind_some]
    rw [join_f (by simp [be_len]) (by simp [be_len]) (by simp [be_len]; omega) (by simp [be_len]; omega), Option.bind_some]
    rw [join_f (by simp [be_len]) (by simp) (by simp [be_len]; omega) (by simp; omega), Option.bind_some]
    rw [join_f (by omega) (by omega) (by omega) (by omega), Option.bind_some]
    rw [join_f (by simp [be_len]) (by simp; omega) (by simp [be_len]; omega) (by simp; omega), Option.bind_some]
    have hgb := gseg_bytes a0 a1 a2 a3 a4 a5 hob hb
    rw [gseg_as]
    generalize gseg a0 a1 a2 a3 a4 a5 o p = g at hl hgb ⊢
    rw [l10_f hgb (by omega) _ _ _ (by omega), Option.bind_some]
    rw [gout_def]
    exact tail_f g _ (by omega)
theorem sseg_j (a0 a1 a2 a3 a4 a5 a6 : Int) (b7 : Bool) (a8 : Int) (b9 : Bool) {s : List S157} {p : List Int} (src dst : Int) (hn : s.length ≤ 3) (hp : p.length ≤ 1048576) (hb : Bs p) {k : Nat} (hk : p.length + 400 ≤ k) : spec_EncodeSegment.j0 (k + 1) src dst false a0 a1 a2 a3 a4 a5 a6 b7 a8 b9 s p = some (if 20 + ((gopt a6 b7 a8 b9 s).length : Int) + (p.length : Int) > 65515 then ([], 7) else (gout src dst (gseg a0 a1 a2 a3 a4 a5 (gopt a6 b7 a8 b9 s) p), 0)) :=
  sseg_5 a0 a1 a2 a3 a4 a5 a6 b7 a8 b9 s src dst (gopt_len a6 b7 a8 b9 hn) (gopt_bytes a6 b7 a8 b9 s) hp hb hk (sopt_f a0 a1 a2 a3 a4 a5 a6 b7 a8 b9 p hn (by omega))
theorem iseg_5 (a0 a1 a2 a3 a4 a5 a6 : Int) (b7 : Bool) (a8 : Int) (b9 : Bool) (s : List S157) {o p : List Int} (src dst : Int) (ho : o.length ≤ 40) (hob : Bs o) (hp : p.length ≤ 1048576) (hb : Bs p) {k : Nat} (hk : p.length + 400 ≤ k) : impl_EncodeSegment.j5 (k + 1) src dst o a0 a1 a2 a3 a4 a5 a6 b7 a8 b9 s p = some (if 20 + (o.length : Int) + (p.length : Int) > 65515 then ([], 7) else (gout src dst (gseg a0 a1 a2 a3 a4 a5 o p), 0)) := by
  have hl := gseg_len a0 a1 a2 a3 a4 a5 o p
  rw [impl_EncodeSegment.j5, wr64 (a := 20 + (o.length : Int)) (by omega), wr64 (a := 20 + (o.length : Int) + (p.length : Int)) (by omega), td_pos (a := 20 + (o.length : Int)) 4 (by omega), wr64 (a := (20 + (o.length : Int)) / 4) (by omega), wr64 (a := (20 + (o.length : Int)) / 4 * 16) (by omega)]
  by_cases h : 20 + (o.length : Int) + (p.length : Int) > 65515
  · rw [if_pos h, if_pos h]
  · rw [if_neg h, if_neg h]
    have e2 : ∀ (l : List Int) v, l.length ≤ 1000 → impl_put.f k l 2 v = some (l ++ be 2 v) := fun l v hl => iput_f (n := 2) (by omega) (by omega) (by omega)
    have e4 : ∀ (l : List Int) v, l.length ≤ 1000 → impl_put.f k l 4 v = some (l ++ be 4 v) := fun l v hl => iput_f (n := 4) (by omega) (by omega) (by omega)
    rw [e2 _ _ (by simp)]
    simp only [Option.bind_some, List.nil_append]
    rw [e2 _ _ (by simp [be_len])]
    simp only [Option.bind_some]
    rw [e4 _ _ (by simp [be_len])]
    simp only [Option.bind_some]
    rw [e4 _ _ (by simp [be_len])]
    simp only [Option.bind_some]
    rw [if_pos (by simp [be_len]), e2 _ _ (by simp [be_len])]
    simp only [Option.bind_some]
    rw [if_pos (by simp [be_len]), if_pos (by simp [be_len]; omega), if_pos (by simp [be_len]; omega)]
    rw [show be 2 a0 ++ be 2 a1 ++ be 4 a2 ++ be 4 a3 ++ [((20 + (o.length : Int)) / 4 * 16) % 256, a4 % 256] ++ be 2 a5 ++ [0, 0, 0, 0] ++ o ++ p = gseg a0 a1 a2 a3 a4 a5 o p from rfl, ifh_f _ _ _ _ (by omega)]
    simp only [Option.bind_some]
    rw [if_pos (by rw [fhead_len]; omega), icheck_f (Bs.append (fhead_bytes _ _ _ _) (gseg_bytes _ _ _ _ _ _ hob hb)) (by rw [List.length_append, fhead_len]; omega) (by rw [List.length_append, fhead_len]; omega)]
    simp only [Option.bind_some]
    rw [if_pos (by omega), if_pos (by omega)]
    rfl
theorem iseg_l (a0 a1 a2 a3 a4 a5 a6 : Int) (b7 : Bool) (a8 : Int) (b9 : Bool) (s : List S157) (p : List Int) (src dst : Int) (hn : s.length ≤ 3) {K : Nat} (hK : 20 ≤ K) (d : Nat) : ∀ (i : Nat) (x : List Int), i + d = s.length → x.length + 8 * d ≤ 100 → impl_EncodeSegment.l0 (K + d + 1) src dst x s (s.length : Int) (i : Int) a0 a1 a2 a3 a4 a5 a6 b7 a8 b9 s p = impl_EncodeSegment.j5 K src dst (x ++ sbody (s.drop i)) a0 a1 a2 a3 a4 a5 a6 b7 a8 b9 s p := by
  induction d with
  | zero =>
    intro i x hi hx
    rw [impl_EncodeSegment.l0, if_neg (by omega), List.drop_eq_nil_of_le (by omega)]
    simp [sbody]
  | succ d ih =>
    intro i x hi hx
    have e4 : ∀ (l : List Int) v, l.length ≤ 1000 → impl_put.f (K + (d + 1)) l 4 v = some (l ++ be 4 v) := fun l v hl => iput_f (n := 4) (by omega) (by omega) (by omega)
    rw [impl_EncodeSegment.l0, if_pos (by omega), if_pos (by omega), if_pos (by omega), rdS (by omega), wr_succ (n := s.length) (by omega) (by omega), e4 _ _ (by omega)]
    simp only [Option.bind_some]
    rw [e4 _ _ (by simp [be_len]; omega)]
    simp only [Option.bind_some]
    rw [show K + (d + 1) = K + d + 1 from by omega, ih (i + 1) _ (by omega) (by simp [be_len]; omega), List.drop_eq_getElem_cons (show i < s.length by omega), sbody]
    simp only [List.append_assoc]
theorem iseg_j (a0 a1 a2 a3 a4 a5 a6 : Int) (b7 : Bool) (a8 : Int) (b9 : Bool) {s : List S157} {p : List Int} (src dst : Int) (hn : s.length ≤ 3) (hp : p.length ≤ 1048576) (hb : Bs p) {k : Nat} (hk : p.length + 420 ≤ k) : impl_EncodeSegment.j0 (k + 1 + 1 + 1 + 1) src dst false a0 a1 a2 a3 a4 a5 a6 b7 a8 b9 s p = some (if 20 + ((gopt a6 b7 a8 b9 s).length : Int) + (p.length : Int) > 65515 then ([], 7) else (gout src dst (gseg a0 a1 a2 a3 a4 a5 (gopt a6 b7 a8 b9 s) p), 0)) := by
  have ho := gopt_len a6 b7 a8 b9 hn
  have hob := gopt_bytes a6 b7 a8 b9 s
  have fin : ∀ k', p.length + 401 ≤ k' → ∀ x, x = gopt a6 b7 a8 b9 s → impl_EncodeSegment.j5 k' src dst x a0 a1 a2 a3 a4 a5 a6 b7 a8 b9 s p = some (if 20 + ((gopt a6 b7 a8 b9 s).length : Int) + (p.length : Int) > 65515 then ([], 7) else (gout src dst (gseg a0 a1 a2 a3 a4 a5 (gopt a6 b7 a8 b9 s) p), 0)) := by
    intro k' hk' x hx
    subst hx
    obtain ⟨k', rfl⟩ : ∃ m, k' = m + 1 := ⟨k' - 1, by omega⟩
    exact iseg_5 a0 a1 a2 a3 a4 a5 a6 b7 a8 b9 s src dst ho hob hp hb (by omega)
  have j3 : ∀ x : List Int, x.length ≤ 12 → gopt3 x s.length ++ sbody s = gopt a6 b7 a8 b9 s → impl_EncodeSegment.j3 (k + 1) src dst x a0 a1 a2 a3 a4 a5 a6 b7 a8 b9 s p = some (if 20 + ((gopt a6 b7 a8 b9 s).length : Int) + (p.length : Int) > 65515 then ([], 7) else (gout src dst (gseg a0 a1 a2 a3 a4 a5 (gopt a6 b7 a8 b9 s) p), 0)) := by
    intro x hx hg
    unfold gopt3 at hg
    rw [impl_EncodeSegment.j3, wr64 (a := 8 * (s.length : Int)) (by omega), wr64 (a := 8 * (s.length : Int) + 2) (by omega), show 8 * (s.length : Int) + 2 = 2 + 8 * (s.length : Int) from by omega]
    by_cases h : (s.length : Int) > 0
    · rw [if_pos h] at hg
      rw [if_pos h]
      simp only [Option.bind_some]
      rw [if_pos (by simp; omega)]
      obtain ⟨K, rfl⟩ : ∃ K, k = K + s.length + 1 := ⟨k - s.length - 1, by omega⟩
      refine (iseg_l a0 a1 a2 a3 a4 a5 a6 b7 a8 b9 s p src dst hn (K := K) (by omega) s.length 0 _ (by omega) (by simp; omega)).trans ?_
      exact fin K (by omega) _ hg
    · rw [if_neg h] at hg
      rw [if_neg h]
      refine fin k (by omega) _ ?_
      rw [← hg, show s = [] from List.length_eq_zero_iff.1 (by omega)]
      simp [sbody]
  have j2 : ∀ x : List Int, x.length ≤ 8 → gopt3 (gopt2 x b9) s.length ++ sbody s = gopt a6 b7 a8 b9 s → impl_EncodeSegment.j2 (k + 1 + 1) src dst x a0 a1 a2 a3 a4 a5 a6 b7 a8 b9 s p = some (if 20 + ((gopt a6 b7 a8 b9 s).length : Int) + (p.length : Int) > 65515 then ([], 7) else (gout src dst (gseg a0 a1 a2 a3 a4 a5 (gopt a6 b7 a8 b9 s) p), 0)) := by
    intro x hx hg
    unfold gopt2 at hg
    rw [impl_EncodeSegment.j2]
    by_cases h : b9 = true
    · rw [if_pos h] at hg
      rw [if_pos h]
      simp only [Option.bind_some]
      rw [if_pos (by simp; omega)]
      exact j3 _ (by simp; omega) hg
    · rw [if_neg h] at hg
      rw [if_neg h]
      exact j3 _ (by omega) hg
  have j1 : ∀ x : List Int, x.length ≤ 4 → gopt3 (gopt2 (gopt1 x b7 a8) b9) s.length ++ sbody s = gopt a6 b7 a8 b9 s → impl_EncodeSegment.j1 (k + 1 + 1 + 1) src dst x a0 a1 a2 a3 a4 a5 a6 b7 a8 b9 s p = some (if 20 + ((gopt a6 b7 a8 b9 s).length : Int) + (p.length : Int) > 65515 then ([], 7) else (gout src dst (gseg a0 a1 a2 a3 a4 a5 (gopt a6 b7 a8 b9 s) p), 0)) := by
    intro x hx hg
    unfold gopt1 at hg
    rw [impl_EncodeSegment.j1]
    by_cases h : b7 = true
    · rw [if_pos h] at hg
      rw [if_pos h]
      simp only [Option.bind_some]
      rw [if_pos (by simp; omega)]
      exact j2 _ (by simp; omega) hg
    · rw [if_neg h] at hg
      rw [if_neg h]
      exact j2 _ (by omega) hg
  have hg : gopt3 (gopt2 (gopt1 (gopt0 a6) b7 a8) b9) s.length ++ sbody s = gopt a6 b7 a8 b9 s := rfl
  unfold gopt0 at hg
  rw [impl_EncodeSegment.j0, if_neg (by simp)]
  by_cases h : a6 = 0
  · rw [if_pos h] at hg
    rw [if_pos h]
    exact j1 [] (by simp) hg
  · rw [if_neg h] at hg
    rw [if_neg h]
    simp only [Option.bind_some, List.nil_append]
    rw [if_pos (by simp), show impl_put.f (k + 1 + 1 + 1) [2, 4] 2 a6 = some ([2, 4] ++ be 2 a6) from iput_f (n := 2) (by omega) (by simp) (by omega)]
    simp only [Option.bind_some]
    exact j1 _ (by simp [be_len]) hg
theorem bad_s (a0 a1 a2 a3 a4 a5 a6 : Int) (b7 : Bool) (a8 : Int) (b9 : Bool) (s : List S157) (p : List Int) (src dst : Int) (k : Nat) : spec_EncodeSegment.j0 (k + 1) src dst true a0 a1 a2 a3 a4 a5 a6 b7 a8 b9 s p = some ([], 1) ∧ impl_EncodeSegment.j0 (k + 1) src dst true a0 a1 a2 a3 a4 a5 a6 b7 a8 b9 s p = some ([], 1) := ⟨by rw [spec_EncodeSegment.j0]; rfl, by rw [impl_EncodeSegment.j0]; rfl⟩
theorem seg_f (a0 a1 a2 a3 a4 a5 a6 : Int) (b7 : Bool) (a8 : Int) (b9 : Bool) {s : List S157} {p : List Int} (src dst : Int) (hs : s.length + p.length ≤ 1048576) (hb : Bs p) {k : Nat} (hk : s.length + p.length + 500 ≤ k) : spec_EncodeSegment.f k a0 a1 a2 a3 a4 a5 a6 b7 a8 b9 s p src dst = some (gall a0 a1 a2 a3 a4 a5 a6 b7 a8 b9 s p src dst) ∧ impl_EncodeSegment.f k a0 a1 a2 a3 a4 a5 a6 b7 a8 b9 s p src dst = some (gall a0 a1 a2 a3 a4 a5 a6 b7 a8 b9 s p src dst) := by
  obtain ⟨k, rfl⟩ : ∃ m, k = m + 1 + 1 + 1 + 1 := ⟨k - 4, by omega⟩
  unfold spec_EncodeSegment.f impl_EncodeSegment.f gall
  rw [sOK_f _ _ _ _ _ _ _ _ _ _ _ (by omega) (by omega), iOK_f _ _ _ _ _ _ _ _ _ _ _ (by omega) (by omega)]
  simp only [addrOK_f, isAddr_f, Option.bind_some, decide_eq_true_eq]
  obtain ⟨b1, b2⟩ := bad_s a0 a1 a2 a3 a4 a5 a6 b7 a8 b9 s p src dst (k + 1 + 1 + 1)
  by_cases h1 : okG a0 a1 a2 a3 a4 a5 a6 b7 a8 s = true
  · have hn := okG_len h1
    by_cases h2 : 0 ≤ src ∧ src ≤ 4294967295
    · by_cases h3 : 0 ≤ dst ∧ dst ≤ 4294967295
      · rw [if_pos h1, if_pos h1, if_pos h2, if_pos h2, if_pos ⟨h1, h2, h3⟩, decide_eq_true h3]
        exact ⟨sseg_j a0 a1 a2 a3 a4 a5 a6 b7 a8 b9 src dst hn (by omega) hb (by omega), iseg_j a0 a1 a2 a3 a4 a5 a6 b7 a8 b9 src dst hn (by omega) hb (by omega)⟩
      · rw [if_pos h1, if_pos h1, if_pos h2, if_pos h2, if_neg (fun h => h3 h.2.2), decide_eq_false h3]
        exact ⟨b1, b2⟩
    · rw [if_pos h1, if_pos h1, if_neg h2, if_neg h2, if_neg (fun h => h2 h.2.1)]
      exact ⟨b1, b2⟩
  · rw [if_neg h1, if_neg h1, if_neg (fun h => h1 h.1)]
    exact ⟨b1, b2⟩

/-! ### markseg -/
theorem markS_l (n : Nat) (hn : n ≤ 1048576) (d : Nat) : ∀ (k i : Nat) (x0 : List S157) (a : Int), x0.length = n → i + d = n → d < k → 0 ≤ a → a + 2 * (d : Int) ≤ 1099511627776 → ∃ y, laws_markStretchS.l0 k x0 a (i : Int) = some (a + 2 * (d : Int), y) := by
  induction d with
  | zero =>
    intro k i x0 a hl hi hk h0 h1
    obtain ⟨k, rfl⟩ : ∃ m, k = m + 1 := ⟨k - 1, by omega⟩
    rw [laws_markStretchS.l0, if_neg (by omega)]
    exact ⟨x0, by simp⟩
  | succ d ih =>
    intro k i x0 a hl hi hk h0 h1
    obtain ⟨k, rfl⟩ : ∃ m, k = m + 1 := ⟨k - 1, by omega⟩
    rw [laws_markStretchS.l0, if_pos (by omega), if_pos (by omega), Option.bind_some]
    rw [wr64 (a := a + 1) (by omega), wr64 (a := a + 1 + 1) (by omega), wr_succ (n := n) (by omega) (by omega)]
    obtain ⟨y, hy⟩ := ih k (i + 1) ((x0.set (i : Int).toNat (⟨a, (rd_T157 x0 (i : Int)).f1⟩ : S157)).set (i : Int).toNat (⟨(rd_T157 (x0.set (i : Int).toNat (⟨a, (rd_T157 x0 (i : Int)).f1⟩ : S157)) (i : Int)).f0, a + 1⟩ : S157)) (a + 1 + 1) (by rw [List.length_set, List.length_set]; exact hl) (by omega) (by omega) (by omega) (by omega)
    refine ⟨y, hy.trans ?_⟩
    rw [show a + 1 + 1 + 2 * (d : Int) = a + 2 * ((d + 1 : Nat) : Int) from by omega]
theorem markSeg_f (a0 a1 a2 a3 a4 a5 a6 : Int) (b7 : Bool) (a8 : Int) (b9 : Bool) {s : List S157} {p : List Int} (h : s.length + p.length ≤ 1048576) {k : Nat} (hk : s.length + p.length < k) : ∃ y z, laws_markSegment.f k a0 a1 a2 a3 a4 a5 a6 b7 a8 b9 s p 1 = some (1 + 2 * (s.length : Int) + (p.length : Int), y, z) := by
  unfold laws_markSegment.f laws_markStretchS.f
  obtain ⟨y, hy⟩ := markS_l s.length (by omega) s.length k 0 s 1 rfl (by omega) (by omega) (by omega) (by omega)
  rw [show ((0 : Nat) : Int) = 0 from rfl] at hy
  rw [hy]
  simp only [Option.bind_some]
  rw [markB_f (by omega) (by omega) (by omega)]
  exact ⟨_, _, rfl⟩

/-! ### the law -/
theorem FnExactEncodeSegment (a0 a1 a2 a3 a4 a5 a6 : Int) (b7 : Bool) (a8 : Int) (b9 : Bool) (s : List S165) (p : List Int) (src dst : Int) (w0 : (Lit.int .i64 a0).wf = true) (w1 : (Lit.int .i64 a1).wf = true) (w2 : (Lit.int .i64 a2).wf = true) (w3 : (Lit.int .i64 a3).wf = true) (w4 : (Lit.int .i64 a4).wf = true) (w5 : (Lit.int .i64 a5).wf = true) (w6 : (Lit.int .i64 a6).wf = true) (w8 : (Lit.int .i64 a8).wf = true)
    (hs : s.length ≤ maxLen) (hsw : ∀ x ∈ s, ((Lit.int .i64 x.f0).wf = true ∧ (Lit.int .i64 x.f1).wf = true)) (hp : p.length ≤ maxLen) (hpw : ∀ x ∈ p, (Lit.int .u8 x).wf = true) (ws : (Lit.int .i64 src).wf = true) (wd : (Lit.int .i64 dst).wf = true) : ∃ k, laws_FnExactEncodeSegment.f k a0 a1 a2 a3 a4 a5 a6 b7 a8 b9 s p src dst = some true := by
  obtain ⟨r, hr, hc⟩ := szSeg_f a0 a1 a2 a3 a4 a5 a6 b7 a8 b9 (s := s) (p := p) (by unfold maxLen at hs; exact hs) (by unfold maxLen at hp; exact hp)
  by_cases hn : r < 0
  · refine ⟨0, ?_⟩
    unfold laws_FnExactEncodeSegment.f
    rw [hr]
    simp only [Option.bind_some]
    rw [if_pos hn]
  · have hc : s.length + p.length ≤ 1048576 := by rcases hc with hc | hc <;> omega
    have hm : (s.map cv).length + p.length ≤ 1048576 := by rw [List.length_map]; exact hc
    have hm2 : (s.map cv).length = s.length := List.length_map ..
    have hg := fun k (hk : s.length + p.length + 500 ≤ k) => seg_f a0 a1 a2 a3 a4 a5 a6 b7 a8 b9 (s := s.map cv) (p := p) src dst hm (Bs.of hpw) (k := k) (by omega)
    have hL := gall_len a0 a1 a2 a3 a4 a5 a6 b7 a8 b9 (s.map cv) p src dst
    obtain ⟨R, hR⟩ : ∃ R, R = gall a0 a1 a2 a3 a4 a5 a6 b7 a8 b9 (s.map cv) p src dst := ⟨_, rfl⟩
    rw [← hR] at hg hL
    obtain ⟨a, e⟩ := R
    simp only at hL
    obtain ⟨k, hk⟩ : ∃ k, k = s.length + p.length + a.length + 600 := ⟨_, rfl⟩
    have hx : ¬ ((1 : Int) + (a.length : Int) < 0) := by omega
    have hy : ¬ ((1 : Int) + 2 * ((s.map cv).length : Int) + (p.length : Int) < 0) := by omega
    have hto := fun k (hk : s.length + p.length < k) => toSeg_f a0 a1 a2 a3 a4 a5 a6 b7 a8 b9 s p hc hk
    refine ⟨k + 1 + 1 + 1, ?_⟩
    unfold laws_FnExactEncodeSegment.f
    rw [hr]
    simp only [Option.bind_some]
    rw [if_neg hn, hto _ (by omega)]
    simp only [Option.bind_some]
    rw [(hg _ (by omega)).1, (hg _ (by omega)).2]
    simp only [Option.bind_some]
    rw [eqB_f (by omega) (by omega)]
    simp only [Option.bind_some, decide_true, if_true, bne_self_eq_false]
    rw [laws_FnExactEncodeSegment.j0, if_neg (by simp), hto _ (by omega)]
    simp only [Option.bind_some]
    rw [eqSeg_same _ _ _ _ _ _ _ _ _ _ _ _ hm (by omega)]
    simp only [Option.bind_some, if_true]
    obtain ⟨y, z, hmk⟩ := markSeg_f a0 a1 a2 a3 a4 a5 a6 b7 a8 b9 hm (k := k + 1 + 1) (by omega)
    rw [hmk]
    simp only [Option.bind_some]
    rw [if_neg hy, eqB_f (by omega) (by omega)]
    simp only [Option.bind_some, decide_true, if_true, bne_self_eq_false]
    rw [laws_FnExactEncodeSegment.j1, if_neg (by simp), markB_f (by omega) (by omega) (by omega)]
    simp only [Option.bind_some]
    rw [heldB_f (by omega) (by omega) (by omega)]
    simp only [Option.bind_some, if_true]
    rw [if_neg hx, hto _ (by omega)]
    simp only [Option.bind_some]
    rw [(hg _ (by omega)).2]
    simp only [Option.bind_some]
    rw [eqB_f (by omega) (by omega)]
    simp only [Option.bind_some, decide_true, if_true, bne_self_eq_false]
    rw [laws_FnExactEncodeSegment.j2, if_neg (by simp), heldB_f (by omega) (by omega) (by omega)]
    simp only [Option.bind_some, if_true]
    rw [if_neg hx]

end Go.Proofs.Ytobaoffcepmeiaa.Pure
