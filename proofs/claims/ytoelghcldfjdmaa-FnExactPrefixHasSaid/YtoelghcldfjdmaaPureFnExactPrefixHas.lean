/- PrefixHas of the program returns what PrefixHas of the reference returns, for all arguments; without conditions. -/
import Derived.Test.YtoelghcldfjdmaaPFnExactPrefixHasx2
set_option linter.unusedVariables false
set_option linter.unusedSimpArgs false
namespace Go.Proofs.Ytoelghcldfjdmaa.Pure
open Go.RowKit Go.Proofs.Ytoelghcldfjdmaa.PFnExactPrefixHas Go.Proofs.YtoelghcldfjdmaaW.PrintWords Go.Proofs.YtoelghcldfjdmaaW.PrintLast

/-! ### base -/
theorem wf64 {a : Int} (h : (Lit.int .i64 a).wf = true) : -9223372036854775808 ≤ a ∧ a ≤ 9223372036854775807 := by
  have h1 : IntKind.i64.min = -9223372036854775808 := by decide
  have h2 : IntKind.i64.max = 9223372036854775807 := by decide
  simp only [Lit.wf, Bool.and_eq_true, decide_eq_true_eq] at h
  omega
theorem tm_pos {a : Int} (n : Int) (h : 0 ≤ a) : Int.tmod a n = a % n := Int.tmod_eq_emod_of_nonneg h
theorem tm_neg {a : Int} (n : Int) (h : a ≤ 0) : Int.tmod a n = -((-a) % n) := by
  have := Int.neg_tmod (-a) n
  rw [Int.neg_neg] at this
  rw [this, Int.tmod_eq_emod_of_nonneg (by omega)]
theorem td_pos {a : Int} (n : Int) (h : 0 ≤ a) : Int.tdiv a n = a / n := Int.tdiv_eq_ediv_of_nonneg h
theorem wr64 {a : Int} (h : -9223372036854775808 ≤ a ∧ a ≤ 9223372036854775807) : wrap64 a = a := by
  unfold wrap64
  omega

/-! ### addr -/
theorem in_f (a l h : Int) : spec_l01In.f a l h = some (decide (l ≤ a ∧ a ≤ h)) := by
  unfold spec_l01In.f
  by_cases h1 : a ≥ l
  · rw [if_pos h1]; congr 1; rw [decide_eq_decide]; omega
  · rw [if_neg h1]; congr 1; rw [eq_comm, decide_eq_false_iff_not]; omega
theorem addrOK_f (a : Int) : spec_l02AddrOK.f a = some (decide (0 ≤ a ∧ a ≤ 4294967295)) := by
  unfold spec_l02AddrOK.f
  rw [in_f]
  rfl
theorem isAddr_f (a : Int) : impl_isAddr.f a = some (decide (0 ≤ a ∧ a ≤ 4294967295)) := by
  unfold impl_isAddr.f
  by_cases h1 : a ≥ 0
  · rw [if_pos h1]; congr 1; rw [decide_eq_decide]; omega
  · rw [if_neg h1]; congr 1; rw [eq_comm, decide_eq_false_iff_not]; omega

/-! ### bits -/
theorem wraps_i64 (n : Int) (h₀ : 0 ≤ n) (h₁ : n < 2 ^ 63) : IntKind.i64.wrap n = n := by rw [IntKind.wrap_i64]; omega
/-- The low bits of any whole number. -/
theorem and_low (i : Nat) (hi : i ≤ 62) (x : Int) : Go.bits .and .i64 x (2 ^ i - 1) = x % 2 ^ i := by
  have hpos : 0 < 2 ^ i := Nat.two_pow_pos i
  have h62 : 2 ^ i ≤ 2 ^ 62 := Nat.pow_le_pow_right (by decide) hi
  have hc : ((2 : Int) ^ i - 1) = ((2 ^ i - 1 : Nat) : Int) := by
    rw [Int.natCast_sub hpos]; simp
  have hx0 : 0 ≤ x % 18446744073709551616 := Int.emod_nonneg _ (by decide)
  have hx : (BitVec.ofInt 64 x).toNat = (x % 18446744073709551616).toNat := by rw [BitVec.toNat_ofInt]; rfl
  have hd : ((2 : Int) ^ i) ∣ 18446744073709551616 := by
    rw [show (18446744073709551616 : Int) = 2 ^ 64 from rfl]
    exact ⟨2 ^ (64 - i), by rw [← Int.pow_add, show i + (64 - i) = 64 from by omega]⟩
  have h2 : ((x % 18446744073709551616).toNat % 2 ^ i : Nat) = (x % 2 ^ i).toNat := by
    apply Int.ofNat.inj
    have e1 : (((x % 18446744073709551616).toNat % 2 ^ i : Nat) : Int) = x % 2 ^ i := by
      rw [Int.natCast_emod, Int.toNat_of_nonneg hx0, Int.natCast_pow]
      exact Int.emod_emod_of_dvd _ hd
    have e2 : 0 ≤ x % 2 ^ i := Int.emod_nonneg _ (by have : (0 : Int) < 2 ^ i := Int.pow_pos (by decide); omega)
    exact e1.trans (Int.toNat_of_nonneg e2).symm
  have e2 : 0 ≤ x % 2 ^ i := Int.emod_nonneg _ (by have : (0 : Int) < 2 ^ i := Int.pow_pos (by decide); omega)
  have e3 : x % 2 ^ i < 2 ^ i := Int.emod_lt_of_pos _ (Int.pow_pos (by decide))
  have e4 : (2 : Int) ^ i ≤ 2 ^ 62 := by exact_mod_cast h62
  have key : Go.bits .and .i64 x (2 ^ i - 1) = IntKind.i64.wrap (((BitVec.ofInt 64 x).toNat &&& (BitVec.ofInt 64 ((2 ^ i - 1 : Nat) : Int)).toNat : Nat) : Int) := by
    rw [hc]
    show IntKind.i64.wrap ((BitVec.ofInt 64 x &&& BitVec.ofInt 64 ((2 ^ i - 1 : Nat) : Int)).toNat : Int) = _
    rw [BitVec.toNat_and]
  rw [key, hx]
  have hm : (BitVec.ofInt 64 ((2 ^ i - 1 : Nat) : Int)).toNat = 2 ^ i - 1 := by
    rw [BitVec.ofInt_natCast, BitVec.toNat_ofNat]
    exact Nat.mod_eq_of_lt (by omega)
  rw [hm, Nat.and_two_pow_sub_one_eq_mod, h2, Int.toNat_of_nonneg e2]
  exact wraps_i64 _ e2 (by omega)
theorem and_65535 (x : Int) : Go.bits .and .i64 x 65535 = x % 65536 := and_low 16 (by decide) x
theorem and_255 (x : Int) : Go.bits .and .i64 x 255 = x % 256 := and_low 8 (by decide) x
theorem nat_and_high (a n : Nat) (ha : a < 2 ^ 32) (hn : n ≤ 32) : a &&& ((2 ^ (32 - n) - 1) * 2 ^ n) = a / 2 ^ n * 2 ^ n := by
  apply Nat.eq_of_testBit_eq
  intro i
  rw [Nat.testBit_and, Nat.testBit_mul_two_pow, Nat.testBit_mul_two_pow, Nat.testBit_div_two_pow, Nat.testBit_two_pow_sub_one]
  by_cases h : n ≤ i
  · simp only [h, decide_true, Bool.true_and]
    rw [show i - n + n = i from by omega]
    by_cases h3 : i - n < 32 - n
    · simp [h3]
    · have : a.testBit i = false := Nat.testBit_lt_two_pow (Nat.lt_of_lt_of_le ha (Nat.pow_le_pow_right (by decide) (by omega)))
      simp [this]
  · simp [h]
theorem and_high (a : Int) (n : Nat) (h0 : 0 ≤ a) (h1 : a ≤ 4294967295) (hn : n ≤ 32) : Go.bits .and .i64 a ((2 ^ (32 - n) - 1) * 2 ^ n) = a / 2 ^ n * 2 ^ n := by
  obtain ⟨b, rfl⟩ := Int.eq_ofNat_of_zero_le h0
  have hc : (((2 : Int) ^ (32 - n) - 1) * 2 ^ n) = (((2 ^ (32 - n) - 1) * 2 ^ n : Nat) : Int) := by
    rw [Int.natCast_mul, Int.natCast_sub (Nat.two_pow_pos _)]; simp
  have hl : (2 ^ (32 - n) - 1) * 2 ^ n ≤ 4294967295 := by
    rw [Nat.sub_mul, ← Nat.pow_add, show 32 - n + n = 32 from by omega]
    have := Nat.two_pow_pos n
    omega
  rw [hc, (bits_nat .i64 63 (by decide) wraps_i64 b _ (by omega) (by omega)).1, nat_and_high b n (by omega) hn]
  simp

/-! ### prefix -/
theorem bits33 {b : Int} (h : 0 ≤ b ∧ b ≤ 32) : b = 0 ∨ b = 1 ∨ b = 2 ∨ b = 3 ∨ b = 4 ∨ b = 5 ∨ b = 6 ∨ b = 7 ∨ b = 8 ∨ b = 9 ∨ b = 10 ∨ b = 11 ∨ b = 12 ∨ b = 13 ∨ b = 14 ∨ b = 15 ∨ b = 16 ∨ b = 17 ∨ b = 18 ∨ b = 19 ∨ b = 20 ∨ b = 21 ∨ b = 22 ∨ b = 23 ∨ b = 24 ∨ b = 25 ∨ b = 26 ∨ b = 27 ∨ b = 28 ∨ b = 29 ∨ b = 30 ∨ b = 31 ∨ b = 32 := by omega
/-- How many addresses a prefix of so many bits has. -/
def sz (b : Int) : Int := 2 ^ (32 - b).toNat
theorem sz_pos (b : Int) : 0 < sz b := Int.pow_pos (by decide)
theorem sz_le {b : Int} (h : 0 ≤ b ∧ b ≤ 32) : sz b ≤ 4294967296 := by
  rcases bits33 h with rfl | rfl | rfl | rfl | rfl | rfl | rfl | rfl | rfl | rfl | rfl | rfl | rfl | rfl | rfl | rfl | rfl | rfl | rfl | rfl | rfl | rfl | rfl | rfl | rfl | rfl | rfl | rfl | rfl | rfl | rfl | rfl | rfl <;> decide
theorem size_f {b : Int} (h : 0 ≤ b ∧ b ≤ 32) {k : Nat} (hk : 40 ≤ k) : spec_l02Size.f k b = some (sz b) := by
  have h0 : spec_l02Size.f 40 b = some (sz b) := by
    rcases bits33 h with rfl | rfl | rfl | rfl | rfl | rfl | rfl | rfl | rfl | rfl | rfl | rfl | rfl | rfl | rfl | rfl | rfl | rfl | rfl | rfl | rfl | rfl | rfl | rfl | rfl | rfl | rfl | rfl | rfl | rfl | rfl | rfl | rfl <;> decide +kernel
  exact at_rounds (fun k => spec_l02Size.mono b k) hk h0
theorem mask_f {b : Int} (h : 0 ≤ b ∧ b ≤ 32) : impl_mask.f b = some ((2 ^ (32 - (32 - b).toNat) - 1) * 2 ^ (32 - b).toNat) := by
  rcases bits33 h with rfl | rfl | rfl | rfl | rfl | rfl | rfl | rfl | rfl | rfl | rfl | rfl | rfl | rfl | rfl | rfl | rfl | rfl | rfl | rfl | rfl | rfl | rfl | rfl | rfl | rfl | rfl | rfl | rfl | rfl | rfl | rfl | rfl <;> decide +kernel
theorem and_mask {a b : Int} (h : 0 ≤ b ∧ b ≤ 32) (ha : 0 ≤ a ∧ a ≤ 4294967295) : Go.bits .and .i64 a ((2 ^ (32 - (32 - b).toNat) - 1) * 2 ^ (32 - b).toNat) = a / sz b * sz b :=
  and_high a _ ha.1 ha.2 (by omega)
/-- A prefix is valid. -/
def okP (a b : Int) : Prop := (0 ≤ a ∧ a ≤ 4294967295) ∧ (0 ≤ b ∧ b ≤ 32) ∧ a % sz b = 0
instance (a b : Int) : Decidable (okP a b) := by unfold okP; exact inferInstance
theorem div_back {a s : Int} (hs : 0 < s) : (a / s * s = a) ↔ a % s = 0 := by
  have := Int.mul_ediv_add_emod a s
  rw [Int.mul_comm] at this
  omega
theorem specOK_f (a b : Int) {k : Nat} (hk : 40 ≤ k) : spec_l02PrefixOK.f k a b = some (decide (okP a b)) := by
  unfold spec_l02PrefixOK.f okP
  rw [addrOK_f, in_f]
  simp only [Option.bind_some]
  by_cases ha : 0 ≤ a ∧ a ≤ 4294967295
  · by_cases hb : 0 ≤ b ∧ b ≤ 32
    · rw [size_f hb hk]
      have := sz_pos b
      simp only [ha, hb, and_self, decide_true, if_true, Option.bind_some, true_and]
      rw [if_neg (by omega), tm_pos _ ha.1]
      congr 1
    · simp [ha, hb]
  · simp [ha]
theorem implOK_f (a b : Int) : impl_okPrefix.f a b = some (decide (okP a b)) := by
  unfold impl_okPrefix.f okP
  rw [isAddr_f]
  simp only [Option.bind_some]
  by_cases ha : 0 ≤ a ∧ a ≤ 4294967295
  · by_cases hb : 0 ≤ b ∧ b ≤ 32
    · rw [mask_f hb]
      have hs := sz_pos b
      simp only [ha, and_self, decide_true, if_true, Option.bind_some, true_and]
      rw [if_pos (by omega), if_pos (by omega), and_mask hb ha]
      simp only [hb, and_self, true_and]
      congr 1
      have := div_back (a := a) hs
      rw [Bool.eq_iff_iff]
      simp only [beq_iff_eq, decide_eq_true_eq]
      exact this
    · simp only [ha, hb, and_self, decide_true, if_true, false_and, and_false, decide_false]
      by_cases h1 : b ≥ 0
      · rw [if_pos h1, if_neg (by omega)]
      · rw [if_neg h1]
  · simp [ha]

/-! ### has -/
theorem mul_eq_iff {q a s : Int} (hs : 0 < s) (h : a % s = 0) : q * s = a ↔ q = a / s := by
  have := Int.mul_ediv_add_emod a s
  constructor
  · intro e
    rw [← e, Int.mul_ediv_cancel _ (by omega)]
  · intro e
    rw [e, Int.mul_comm]
    omega
/-- An address is one of a prefix. -/
def hasP (a b x : Int) : Bool := decide (okP a b) && decide (0 ≤ x ∧ x ≤ 4294967295) && (x / sz b == a / sz b)
theorem ediv_small {a s : Int} (ha : 0 ≤ a ∧ a ≤ 4294967295) (hs : 0 < s) : 0 ≤ a / s ∧ a / s ≤ 4294967295 := by
  refine ⟨Int.ediv_nonneg ha.1 (by omega), ?_⟩
  have := Int.ediv_le_self s ha.1
  omega
theorem specHas_f (a b x : Int) {k : Nat} (hk : 40 ≤ k) : spec_PrefixHas.f k a b x = some (hasP a b x) := by
  unfold spec_PrefixHas.f hasP
  rw [specOK_f _ _ hk, addrOK_f]
  simp only [Option.bind_some]
  by_cases h : okP a b
  · by_cases hx : 0 ≤ x ∧ x ≤ 4294967295
    · have hs := sz_pos b
      rw [size_f h.2.1 hk]
      simp only [h, hx, and_self, decide_true, if_true, Option.bind_some, Bool.true_and]
      rw [if_neg (by omega), if_neg (by omega), td_pos _ hx.1, td_pos _ h.1.1]
      have h1 := ediv_small hx hs
      have h2 := ediv_small h.1 hs
      rw [wr64 (by omega), wr64 (by omega)]
    · simp [h, hx]
  · simp [h]
theorem implHas_f (a b x : Int) : impl_PrefixHas.f a b x = some (hasP a b x) := by
  unfold impl_PrefixHas.f hasP
  rw [implOK_f, isAddr_f]
  simp only [Option.bind_some]
  by_cases h : okP a b
  · by_cases hx : 0 ≤ x ∧ x ≤ 4294967295
    · have hs := sz_pos b
      rw [mask_f h.2.1]
      simp only [h, hx, and_self, decide_true, if_true, Option.bind_some, Bool.true_and]
      rw [and_mask h.2.1 hx]
      congr 1
      rw [Bool.eq_iff_iff]
      simp only [beq_iff_eq]
      exact mul_eq_iff hs h.2.2
    · simp [h, hx]
  · simp [h]

/-! ### the law -/
theorem FnExactPrefixHas : ∀ (a b x : Int), (Lit.int .i64 a).wf = true → (Lit.int .i64 b).wf = true → (Lit.int .i64 x).wf = true → ∃ k, laws_FnExactPrefixHas.f k a b x = some true := by
  intro a b x _ _ _
  refine ⟨40, ?_⟩
  unfold laws_FnExactPrefixHas.f laws_toPrefix.f
  simp only [Option.bind_some]
  rw [specHas_f _ _ _ (by omega), implHas_f]
  simp

end Go.Proofs.Ytoelghcldfjdmaa.Pure
