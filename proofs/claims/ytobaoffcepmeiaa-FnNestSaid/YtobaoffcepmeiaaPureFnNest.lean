/- Two drawn valid prefixes have no address in common, or all of one is in the other: with the first and last address of each; and the last address of a prefix is in it, the one behind it is not; without conditions. -/
import Derived.Test.YtobaoffcepmeiaaPFnNestx6
set_option linter.unusedVariables false
set_option linter.unusedSimpArgs false
namespace Go.Proofs.Ytobaoffcepmeiaa.Pure
open Go.RowKit Go.Proofs.Ytobaoffcepmeiaa.PFnNest Go.Proofs.YtobaoffcepmeiaaW.PrintWords Go.Proofs.YtobaoffcepmeiaaW.PrintLast

/-! ### base -/
theorem wf64 {a : Int} (h : (Lit.int .i64 a).wf = true) : -9223372036854775808 ≤ a ∧ a ≤ 9223372036854775807 := by
  have h1 : IntKind.i64.min = -9223372036854775808 := by decide
  have h2 : IntKind.i64.max = 9223372036854775807 := by decide
  simp only [Lit.wf, Bool.and_eq_true, decide_eq_true_eq] at h
  omega
theorem tm_pos {a : Int} (n : Int) (h : 0 ≤ a) : Int.tmod a n = a % n := Int.tmod_eq_emod_of_nonneg h
theorem tm_neg {a : Int} (n : Int) (h : a ≤ 0) : Int.tmod a n = -((-a) % n) := by
  have := Int.neg_tmod (-a) n
  rw [Int.neg_neg] at this
  rw [this, Int.tmod_eq_emod_of_nonneg (by omega)]
theorem td_pos {a : Int} (n : Int) (h : 0 ≤ a) : Int.tdiv a n = a / n := Int.tdiv_eq_ediv_of_nonneg h
theorem wr64 {a : Int} (h : -9223372036854775808 ≤ a ∧ a ≤ 9223372036854775807) : wrap64 a = a := by
  unfold wrap64
  omega
theorem dec_eq {p : Prop} [Decidable p] {b : Bool} (h : b = true ↔ p) : some b = some (decide p) := by
  rw [Option.some.injEq, Bool.eq_iff_iff, decide_eq_true_eq]
  exact h
theorem ite_dec (p q : Prop) [Decidable p] [Decidable q] : (if p then some (decide q) else some false) = some (decide (p ∧ q)) := by
  by_cases h : p <;> simp [h]
theorem beq_dec (a b : Int) : (a == b) = decide (a = b) := by
  rw [Bool.eq_iff_iff]
  simp

/-! ### lists -/
theorem rd_at {xs : List Int} {i : Nat} (h : i < xs.length) : rd xs (i : Int) = xs[i] := by
  unfold rd
  rw [Int.toNat_natCast, List.getD_eq_getElem?_getD, List.getElem?_eq_getElem h]
  rfl
theorem wr_succ {i n : Nat} (h : i < n) (hn : n ≤ 281474976710656) : wrap64 ((i : Int) + 1) = ((i + 1 : Nat) : Int) := by
  rw [wr64 (by omega)]
  omega
theorem maxLen_le {n : Nat} (h : n ≤ 1048576) : n ≤ 281474976710656 := by omega

/-! ### drawbase -/
theorem u64_nn (y : Int) : 0 ≤ IntKind.u64.wrap y := by simp [IntKind.wrap, IntKind.bits, IntKind.signed]; omega
theorem u64_id {y : Int} (h : 0 ≤ y ∧ y ≤ 9223372036854775807) : IntKind.u64.wrap y = y := by simp [IntKind.wrap, IntKind.bits, IntKind.signed]; omega
theorem xor_nn (a b : Int) : 0 ≤ Go.bits .xor .u64 a b := by
  show 0 ≤ IntKind.u64.wrap _
  exact u64_nn _
theorem mod_in {x n : Int} (hx : 0 ≤ x) (hn : 0 < n) (h2 : n ≤ 4611686018427387904) : 0 ≤ wrap64 (Int.tmod x n) ∧ wrap64 (Int.tmod x n) < n := by
  have e : Int.tmod x n = x % n := tm_pos n hx
  have h0 := Int.emod_nonneg x (show n ≠ 0 by omega)
  have h1 := Int.emod_lt_of_pos x hn
  rw [e, wr64 (by omega)]
  exact ⟨h0, h1⟩

/-! ### l01draw2 -/
theorem l01b_l (l : List Int) (hn : l.length ≤ 2097152) (m : List Int) (p : Int) (d : Nat) : ∀ (k i : Nat) (st : Int), i + d = l.length → d < k → ∃ st', spec_l01Begin.l0 k l (i : Int) m p st = some (p, st') := by
  induction d with
  | zero =>
    intro k i st hi hk
    obtain ⟨k, rfl⟩ : ∃ m, k = m + 1 := ⟨k - 1, by omega⟩
    simp only [spec_l01Begin.l0]
    rw [if_neg (by omega)]
    exact ⟨st, rfl⟩
  | succ d ih =>
    intro k i st hi hk
    obtain ⟨k, rfl⟩ : ∃ m, k = m + 1 := ⟨k - 1, by omega⟩
    simp only [spec_l01Begin.l0]
    rw [if_pos (by omega), if_pos (by omega), wr_succ (n := l.length) (by omega) (by omega)]
    exact ih k (i + 1) _ (by omega) (by omega)
theorem l01b_f {l : List Int} (hn : l.length ≤ 2097152) {k : Nat} (hk : l.length < k) : ∃ st, spec_l01Begin.f k l = some (0, st) := by
  unfold spec_l01Begin.f
  exact l01b_l l hn l 0 l.length k 0 _ (by omega) hk
theorem l01n_f {l : List Int} (hl : l.length ≤ 2097152) {p : Int} (st : Int) {n : Int} (hp : 0 ≤ p) (hn : 0 < n) (h2 : n ≤ 4611686018427387904) : ∃ r p' st', spec_l01Next.f l p st n = some (r, p', st') ∧ 0 ≤ r ∧ r < n ∧ 0 ≤ p' := by
  unfold spec_l01Next.f
  rw [if_neg (show ¬ n ≤ 0 by omega), u64_id (y := n) (by omega)]
  by_cases h : p < (l.length : Int)
  · rw [if_pos h, if_pos hp, if_neg (show ¬ n = 0 by omega)]
    have := mod_in (xor_nn (IntKind.u64.wrap (IntKind.u64.wrap (st * 6364136223846793005) + 1442695040888963407) / 8589934592) (IntKind.u64.wrap (rd l p))) hn h2
    exact ⟨_, _, _, rfl, this.1, this.2, by rw [wr64 (by omega)]; omega⟩
  · rw [if_neg h, if_neg (show ¬ n = 0 by omega)]
    have hq : 0 ≤ IntKind.u64.wrap (IntKind.u64.wrap (st * 6364136223846793005) + 1442695040888963407) / 8589934592 := by
      have := u64_nn (IntKind.u64.wrap (st * 6364136223846793005) + 1442695040888963407)
      omega
    have := mod_in hq hn h2
    exact ⟨_, _, _, rfl, this.1, this.2, hp⟩

/-! ### addr0 -/
theorem in_f (a l h : Int) : spec_l01In.f a l h = some (decide (l ≤ a ∧ a ≤ h)) := by
  unfold spec_l01In.f
  by_cases h1 : a ≥ l
  · rw [if_pos h1]; congr 1; rw [decide_eq_decide]; omega
  · rw [if_neg h1]; congr 1; rw [eq_comm, decide_eq_false_iff_not]; omega

/-! ### addr -/
theorem addrOK_f (a : Int) : spec_l02AddrOK.f a = some (decide (0 ≤ a ∧ a ≤ 4294967295)) := by
  unfold spec_l02AddrOK.f
  rw [in_f]
  rfl
theorem isAddr_f (a : Int) : impl_isAddr.f a = some (decide (0 ≤ a ∧ a ≤ 4294967295)) := by
  unfold impl_isAddr.f
  by_cases h1 : a ≥ 0
  · rw [if_pos h1]; congr 1; rw [decide_eq_decide]; omega
  · rw [if_neg h1]; congr 1; rw [eq_comm, decide_eq_false_iff_not]; omega

/-! ### bits -/
theorem wraps_i64 (n : Int) (h₀ : 0 ≤ n) (h₁ : n < 2 ^ 63) : IntKind.i64.wrap n = n := by rw [IntKind.wrap_i64]; omega
/-- The low bits of any whole number. -/
theorem and_low (i : Nat) (hi : i ≤ 62) (x : Int) : Go.bits .and .i64 x (2 ^ i - 1) = x % 2 ^ i := by
  have hpos : 0 < 2 ^ i := Nat.two_pow_pos i
  have h62 : 2 ^ i ≤ 2 ^ 62 := Nat.pow_le_pow_right (by decide) hi
  have hc : ((2 : Int) ^ i - 1) = ((2 ^ i - 1 : Nat) : Int) := by
    rw [Int.natCast_sub hpos]; simp
  have hx0 : 0 ≤ x % 18446744073709551616 := Int.emod_nonneg _ (by decide)
  have hx : (BitVec.ofInt 64 x).toNat = (x % 18446744073709551616).toNat := by rw [BitVec.toNat_ofInt]; rfl
  have hd : ((2 : Int) ^ i) ∣ 18446744073709551616 := by
    rw [show (18446744073709551616 : Int) = 2 ^ 64 from rfl]
    exact ⟨2 ^ (64 - i), by rw [← Int.pow_add, show i + (64 - i) = 64 from by omega]⟩
  have h2 : ((x % 18446744073709551616).toNat % 2 ^ i : Nat) = (x % 2 ^ i).toNat := by
    apply Int.ofNat.inj
    have e1 : (((x % 18446744073709551616).toNat % 2 ^ i : Nat) : Int) = x % 2 ^ i := by
      rw [Int.natCast_emod, Int.toNat_of_nonneg hx0, Int.natCast_pow]
      exact Int.emod_emod_of_dvd _ hd
    have e2 : 0 ≤ x % 2 ^ i := Int.emod_nonneg _ (by have : (0 : Int) < 2 ^ i := Int.pow_pos (by decide); omega)
    exact e1.trans (Int.toNat_of_nonneg e2).symm
  have e2 : 0 ≤ x % 2 ^ i := Int.emod_nonneg _ (by have : (0 : Int) < 2 ^ i := Int.pow_pos (by decide); omega)
  have e3 : x % 2 ^ i < 2 ^ i := Int.emod_lt_of_pos _ (Int.pow_pos (by decide))
  have e4 : (2 : Int) ^ i ≤ 2 ^ 62 := by exact_mod_cast h62
  have key : Go.bits .and .i64 x (2 ^ i - 1) = IntKind.i64.wrap (((BitVec.ofInt 64 x).toNat &&& (BitVec.ofInt 64 ((2 ^ i - 1 : Nat) : Int)).toNat : Nat) : Int) := by
    rw [hc]
    show IntKind.i64.wrap ((BitVec.ofInt 64 x &&& BitVec.ofInt 64 ((2 ^ i - 1 : Nat) : Int)).toNat : Int) = _
    rw [BitVec.toNat_and]
  rw [key, hx]
  have hm : (BitVec.ofInt 64 ((2 ^ i - 1 : Nat) : Int)).toNat = 2 ^ i - 1 := by
    rw [BitVec.ofInt_natCast, BitVec.toNat_ofNat]
    exact Nat.mod_eq_of_lt (by omega)
  rw [hm, Nat.and_two_pow_sub_one_eq_mod, h2, Int.toNat_of_nonneg e2]
  exact wraps_i64 _ e2 (by omega)
theorem and_65535 (x : Int) : Go.bits .and .i64 x 65535 = x % 65536 := and_low 16 (by decide) x
theorem and_255 (x : Int) : Go.bits .and .i64 x 255 = x % 256 := and_low 8 (by decide) x
theorem nat_and_high (a n : Nat) (ha : a < 2 ^ 32) (hn : n ≤ 32) : a &&& ((2 ^ (32 - n) - 1) * 2 ^ n) = a / 2 ^ n * 2 ^ n := by
  apply Nat.eq_of_testBit_eq
  intro i
  rw [Nat.testBit_and, Nat.testBit_mul_two_pow, Nat.testBit_mul_two_pow, Nat.testBit_div_two_pow, Nat.testBit_two_pow_sub_one]
  by_cases h : n ≤ i
  · simp only [h, decide_true, Bool.true_and]
    rw [show i - n + n = i from by omega]
    by_cases h3 : i - n < 32 - n
    · simp [h3]
    · have : a.testBit i = false := Nat.testBit_lt_two_pow (Nat.lt_of_lt_of_le ha (Nat.pow_le_pow_right (by decide) (by omega)))
      simp [this]
  · simp [h]
theorem and_high (a : Int) (n : Nat) (h0 : 0 ≤ a) (h1 : a ≤ 4294967295) (hn : n ≤ 32) : Go.bits .and .i64 a ((2 ^ (32 - n) - 1) * 2 ^ n) = a / 2 ^ n * 2 ^ n := by
  obtain ⟨b, rfl⟩ := Int.eq_ofNat_of_zero_le h0
  have hc : (((2 : Int) ^ (32 - n) - 1) * 2 ^ n) = (((2 ^ (32 - n) - 1) * 2 ^ n : Nat) : Int) := by
    rw [Int.natCast_mul, Int.natCast_sub (Nat.two_pow_pos _)]; simp
  have hl : (2 ^ (32 - n) - 1) * 2 ^ n ≤ 4294967295 := by
    rw [Nat.sub_mul, ← Nat.pow_add, show 32 - n + n = 32 from by omega]
    have := Nat.two_pow_pos n
    omega
  rw [hc, (bits_nat .i64 63 (by decide) wraps_i64 b _ (by omega) (by omega)).1, nat_and_high b n (by omega) hn]
  simp

/-! ### prefix -/
theorem bits33 {b : Int} (h : 0 ≤ b ∧ b ≤ 32) : b = 0 ∨ b = 1 ∨ b = 2 ∨ b = 3 ∨ b = 4 ∨ b = 5 ∨ b = 6 ∨ b = 7 ∨ b = 8 ∨ b = 9 ∨ b = 10 ∨ b = 11 ∨ b = 12 ∨ b = 13 ∨ b = 14 ∨ b = 15 ∨ b = 16 ∨ b = 17 ∨ b = 18 ∨ b = 19 ∨ b = 20 ∨ b = 21 ∨ b = 22 ∨ b = 23 ∨ b = 24 ∨ b = 25 ∨ b = 26 ∨ b = 27 ∨ b = 28 ∨ b = 29 ∨ b = 30 ∨ b = 31 ∨ b = 32 := by omega
/-- How many addresses a prefix of so many bits has. -/
def sz (b : Int) : Int := 2 ^ (32 - b).toNat
theorem sz_pos (b : Int) : 0 < sz b := Int.pow_pos (by decide)
theorem sz_le {b : Int} (h : 0 ≤ b ∧ b ≤ 32) : sz b ≤ 4294967296 := by
  rcases bits33 h with rfl | rfl | rfl | rfl | rfl | rfl | rfl | rfl | rfl | rfl | rfl | rfl | rfl | rfl | rfl | rfl | rfl | rfl | rfl | rfl | rfl | rfl | rfl | rfl | rfl | rfl | rfl | rfl | rfl | rfl | rfl | rfl | rfl <;> decide
theorem size_f {b : Int} (h : 0 ≤ b ∧ b ≤ 32) {k : Nat} (hk : 40 ≤ k) : spec_l02Size.f k b = some (sz b) := by
  have h0 : spec_l02Size.f 40 b = some (sz b) := by
    rcases bits33 h with rfl | rfl | rfl | rfl | rfl | rfl | rfl | rfl | rfl | rfl | rfl | rfl | rfl | rfl | rfl | rfl | rfl | rfl | rfl | rfl | rfl | rfl | rfl | rfl | rfl | rfl | rfl | rfl | rfl | rfl | rfl | rfl | rfl <;> decide +kernel
  exact at_rounds (fun k => spec_l02Size.mono b k) hk h0
theorem mask_f {b : Int} (h : 0 ≤ b ∧ b ≤ 32) : impl_mask.f b = some ((2 ^ (32 - (32 - b).toNat) - 1) * 2 ^ (32 - b).toNat) := by
  rcases bits33 h with rfl | rfl | rfl | rfl | rfl | rfl | rfl | rfl | rfl | rfl | rfl | rfl | rfl | rfl | rfl | rfl | rfl | rfl | rfl | rfl | rfl | rfl | rfl | rfl | rfl | rfl | rfl | rfl | rfl | rfl | rfl | rfl | rfl <;> decide +kernel
theorem and_mask {a b : Int} (h : 0 ≤ b ∧ b ≤ 32) (ha : 0 ≤ a ∧ a ≤ 4294967295) : Go.bits .and .i64 a ((2 ^ (32 - (32 - b).toNat) - 1) * 2 ^ (32 - b).toNat) = a / sz b * sz b :=
  and_high a _ ha.1 ha.2 (by omega)
/-- A prefix is valid. -/
def okP (a b : Int) : Prop := (0 ≤ a ∧ a ≤ 4294967295) ∧ (0 ≤ b ∧ b ≤ 32) ∧ a % sz b = 0
instance (a b : Int) : Decidable (okP a b) := by unfold okP; exact inferInstance
theorem div_back {a s : Int} (hs : 0 < s) : (a / s * s = a) ↔ a % s = 0 := by
  have := Int.mul_ediv_add_emod a s
  rw [Int.mul_comm] at this
  omega
theorem specOK_f (a b : Int) {k : Nat} (hk : 40 ≤ k) : spec_l02PrefixOK.f k a b = some (decide (okP a b)) := by
  unfold spec_l02PrefixOK.f okP
  rw [addrOK_f, in_f]
  simp only [Option.bind_some]
  by_cases ha : 0 ≤ a ∧ a ≤ 4294967295
  · by_cases hb : 0 ≤ b ∧ b ≤ 32
    · rw [size_f hb hk]
      have := sz_pos b
      simp only [ha, hb, and_self, decide_true, if_true, Option.bind_some, true_and]
      rw [if_neg (by omega), tm_pos _ ha.1]
      congr 1
    · simp [ha, hb]
  · simp [ha]
theorem implOK_f (a b : Int) : impl_okPrefix.f a b = some (decide (okP a b)) := by
  unfold impl_okPrefix.f okP
  rw [isAddr_f]
  simp only [Option.bind_some]
  by_cases ha : 0 ≤ a ∧ a ≤ 4294967295
  · by_cases hb : 0 ≤ b ∧ b ≤ 32
    · rw [mask_f hb]
      have hs := sz_pos b
      simp only [ha, and_self, decide_true, if_true, Option.bind_some, true_and]
      rw [if_pos (by omega), if_pos (by omega), and_mask hb ha]
      simp only [hb, and_self, true_and]
      congr 1
      have := div_back (a := a) hs
      rw [Bool.eq_iff_iff]
      simp only [beq_iff_eq, decide_eq_true_eq]
      exact this
    · simp only [ha, hb, and_self, decide_true, if_true, false_and, and_false, decide_false]
      by_cases h1 : b ≥ 0
      · rw [if_pos h1, if_neg (by omega)]
      · rw [if_neg h1]
  · simp [ha]

/-! ### hasimpl -/
theorem mul_eq_iff {q a s : Int} (hs : 0 < s) (h : a % s = 0) : q * s = a ↔ q = a / s := by
  have := Int.mul_ediv_add_emod a s
  constructor
  · intro e
    rw [← e, Int.mul_ediv_cancel _ (by omega)]
  · intro e
    rw [e, Int.mul_comm]
    omega
/-- An address is one of a prefix. -/
def hasP (a b x : Int) : Bool := decide (okP a b) && decide (0 ≤ x ∧ x ≤ 4294967295) && (x / sz b == a / sz b)
theorem ediv_small {a s : Int} (ha : 0 ≤ a ∧ a ≤ 4294967295) (hs : 0 < s) : 0 ≤ a / s ∧ a / s ≤ 4294967295 := by
  refine ⟨Int.ediv_nonneg ha.1 (by omega), ?_⟩
  have := Int.ediv_le_self s ha.1
  omega
theorem implHas_f (a b x : Int) : impl_PrefixHas.f a b x = some (hasP a b x) := by
  unfold impl_PrefixHas.f hasP
  rw [implOK_f, isAddr_f]
  simp only [Option.bind_some]
  by_cases h : okP a b
  · by_cases hx : 0 ≤ x ∧ x ≤ 4294967295
    · have hs := sz_pos b
      rw [mask_f h.2.1]
      simp only [h, hx, and_self, decide_true, if_true, Option.bind_some, Bool.true_and]
      rw [and_mask h.2.1 hx]
      congr 1
      rw [Bool.eq_iff_iff]
      simp only [beq_iff_eq]
      exact mul_eq_iff hs h.2.2
    · simp [h, hx]
  · simp [h]

/-! ### cast -/
theorem or_low {a b : Int} (h : okP a b) : Go.bits .or .i64 a (sz b - 1) = a + (sz b - 1) := by
  have hs := sz_pos b
  have hl := sz_le h.2.1
  exact bits_join .i64 63 (by decide) wraps_i64 (32 - b).toNat a (sz b - 1) h.1.1 h.2.2 (by have := h.1.2; omega) (by omega) (by have : sz b = 2 ^ (32 - b).toNat := rfl; omega) (by omega)
theorem not_mask {b : Int} (h : 0 ≤ b ∧ b ≤ 32) : Go.bits .andNot .i64 4294967295 ((2 ^ (32 - (32 - b).toNat) - 1) * 2 ^ (32 - b).toNat) = sz b - 1 := by
  rcases bits33 h with rfl | rfl | rfl | rfl | rfl | rfl | rfl | rfl | rfl | rfl | rfl | rfl | rfl | rfl | rfl | rfl | rfl | rfl | rfl | rfl | rfl | rfl | rfl | rfl | rfl | rfl | rfl | rfl | rfl | rfl | rfl | rfl | rfl <;> decide +kernel
theorem icast_f (a b : Int) : impl_Broadcast.f a b = some (if okP a b then a + sz b - 1 else -1) := by
  unfold impl_Broadcast.f
  rw [implOK_f]
  simp only [Option.bind_some]
  by_cases h : okP a b
  · rw [mask_f h.2.1]
    simp only [h, decide_true, if_true, Option.bind_some]
    rw [not_mask h.2.1, or_low h]
    congr 1
    omega
  · simp [h]
theorem scast_f (a b : Int) {k : Nat} (hk : 40 ≤ k) : spec_Broadcast.f k a b = some (if okP a b then a + sz b - 1 else -1) := by
  unfold spec_Broadcast.f
  rw [specOK_f _ _ hk]
  simp only [Option.bind_some]
  by_cases h : okP a b
  · have hs := sz_pos b
    have hl := sz_le h.2.1
    have h1 := h.1
    rw [size_f h.2.1 hk]
    simp only [h, decide_true, if_true, Option.bind_some]
    rw [wr64 (a := a + sz b) (by omega), wr64 (by omega)]
  · simp [h]

/-! ### nest -/
theorem sz_mul {b : Int} (h : 0 ≤ b ∧ b ≤ 32) : sz b * 2 ^ b.toNat = 4294967296 := by
  unfold sz
  rw [← Int.pow_add, show (32 - b).toNat + b.toNat = 32 from by omega]
  rfl
theorem sz_sub {b d : Int} (h : 0 ≤ b ∧ b ≤ d ∧ d ≤ 32) : sz b = sz d * 2 ^ (d - b).toNat := by
  unfold sz
  rw [← Int.pow_add, show (32 - d).toNat + (d - b).toNat = (32 - b).toNat from by omega]
theorem blk_in {a s i : Int} (hs : 0 < s) (h : a % s = 0) (hi : 0 ≤ i ∧ i < s) : (a + i) / s = a / s := by
  have e : a = s * (a / s) := by have := Int.mul_ediv_add_emod a s; omega
  have e2 : (a + i) / s = (i + s * (a / s)) / s := by rw [← e, Int.add_comm]
  rw [e2, Int.add_mul_ediv_left _ _ (by omega), Int.ediv_eq_zero_of_lt hi.1 hi.2]
  omega
theorem end_le {a b : Int} (h : okP a b) : a + sz b ≤ 4294967296 := by
  obtain ⟨h1, h2, h3⟩ := h
  have hs := sz_pos b
  have hm := sz_mul h2
  have e : a = sz b * (a / sz b) := by have := Int.mul_ediv_add_emod a (sz b); omega
  have hp : (0 : Int) < 2 ^ b.toNat := Int.pow_pos (by decide)
  have hlt : a / sz b < 2 ^ b.toNat := by
    by_cases h : a / sz b < 2 ^ b.toNat
    · exact h
    · have := Int.mul_le_mul_of_nonneg_left (show 2 ^ b.toNat ≤ a / sz b by omega) (Int.le_of_lt hs)
      omega
  have h4 : sz b * (a / sz b + 1) ≤ sz b * 2 ^ b.toNat := Int.mul_le_mul_of_nonneg_left (by omega) (Int.le_of_lt hs)
  rw [Int.mul_add, Int.mul_one] at h4
  omega
theorem has_dec {a b x : Int} (h : okP a b) (hx : 0 ≤ x ∧ x ≤ 4294967295) : hasP a b x = decide (x / sz b = a / sz b) := by
  unfold hasP
  rw [beq_dec]
  simp [h, hx]
theorem has_off {a b i : Int} (h : okP a b) (hi : 0 ≤ i ∧ i < sz b) : hasP a b (a + i) = true := by
  have he := end_le h
  rw [has_dec h (by have := h.1; omega), blk_in (sz_pos b) h.2.2 hi]
  simp
theorem has_out {a b : Int} (h : okP a b) : hasP a b (a + sz b) = false := by
  have hs := sz_pos b
  have h3 := h.2.2
  unfold hasP
  have e : (a + sz b) / sz b = a / sz b + 1 := by
    have := Int.add_mul_ediv_left a 1 (show sz b ≠ 0 by omega)
    rw [Int.mul_one] at this
    exact this
  rw [e, beq_dec, decide_eq_false (show ¬ (a / sz b + 1 = a / sz b) by omega), Bool.and_false]
theorem nest_up {b d x y : Int} (h : 0 ≤ b ∧ b ≤ d ∧ d ≤ 32) (e : x / sz d = y / sz d) : x / sz b = y / sz b := by
  have hs := sz_pos d
  have key : ∀ z : Int, z / (sz d * 2 ^ (d - b).toNat) = z / sz d / 2 ^ (d - b).toNat := by
    intro z
    rw [Int.ediv_ediv, if_neg (fun h => by have := h.1; omega), Int.sub_zero]
  rw [sz_sub h, key, key, e]
theorem nest_1 {a b c d : Int} (hp : okP a b) (hq : okP c d) (h : b ≤ d) : hasP a b c = hasP a b (c + sz d - 1) := by
  have hs := sz_pos d
  have h1 := end_le hq
  have h2 := hq.1
  rw [has_dec hp (by omega), has_dec hp (by omega), decide_eq_decide]
  have e : (c + sz d - 1) / sz d = c / sz d := by
    rw [show c + sz d - 1 = c + (sz d - 1) from by omega]
    exact blk_in hs hq.2.2 (by omega)
  rw [nest_up (x := c + sz d - 1) (y := c) (b := b) ⟨hp.2.1.1, h, hq.2.1.2⟩ e]
theorem nest_2 {a b c d i : Int} (hp : okP a b) (hq : okP c d) (h : b ≤ d) (hi : 0 ≤ i ∧ i < sz b) (e : hasP c d (a + i) = true) : hasP a b c = true := by
  have h1 := end_le hp
  have h0 := hp.1
  have h2 := hq.1
  rw [has_dec hq (by omega)] at e
  have e := of_decide_eq_true e
  rw [has_dec hp (by omega)]
  have := nest_up (b := b) ⟨hp.2.1.1, h, hq.2.1.2⟩ e
  rw [blk_in (sz_pos b) hp.2.2 hi] at this
  simp [this]

/-! ### shown -/
theorem son_size (l : List Int) : (strOfNums l).size = l.length := by
  unfold strOfNums
  simp [ByteArray.size]
theorem dec_1 (a : Int) (k : Nat) (h : 0 ≤ a ∧ a < 10) : ∃ s, spec_l02Dec.f (k + 1) a = some s ∧ s.size ≤ 1 := by
  rw [spec_l02Dec.f, if_pos h.2]
  exact ⟨_, rfl, by rw [son_size]; simp⟩
theorem dec_up {a : Int} {k n : Nat} (hn : n ≤ 10) (h : 10 ≤ a ∧ a ≤ 1000000) (ih : ∃ s, spec_l02Dec.f k (a / 10) = some s ∧ s.size ≤ n) : ∃ s, spec_l02Dec.f (k + 1) a = some s ∧ s.size ≤ n + 1 := by
  obtain ⟨s, e, hs⟩ := ih
  rw [spec_l02Dec.f, if_neg (by omega), td_pos _ (by omega), wr64 (by omega), e]
  simp only [Option.bind_some]
  rw [if_pos (by rw [son_size]; simp; omega)]
  exact ⟨_, rfl, by rw [ByteArray.size_append, son_size]; simp; omega⟩
theorem dec_3 (a : Int) {k : Nat} (hk : 3 ≤ k) (h : 0 ≤ a ∧ a < 1000) : ∃ s, spec_l02Dec.f k a = some s ∧ s.size ≤ 3 := by
  obtain ⟨k, rfl⟩ : ∃ m, k = m + 1 + 1 + 1 := ⟨k - 3, by omega⟩
  by_cases h1 : a < 10
  · obtain ⟨s, e, hs⟩ := dec_1 a (k + 1 + 1) ⟨h.1, h1⟩
    exact ⟨s, e, by omega⟩
  · refine dec_up (n := 2) (by omega) (by omega) ?_
    by_cases h2 : a / 10 < 10
    · obtain ⟨s, e, hs⟩ := dec_1 (a / 10) (k + 1) (by omega)
      exact ⟨s, e, by omega⟩
    · refine dec_up (n := 1) (by omega) (by omega) ?_
      exact dec_1 (a / 10 / 10) k (by omega)
theorem dot_size (n : UInt8) : (⟨#[n]⟩ : ByteArray).size = 1 := rfl
theorem showA_f {a : Int} (h : 0 ≤ a ∧ a ≤ 4294967295) {k : Nat} (hk : 3 ≤ k) : ∃ s, spec_ShowAddr.f k a = some (s, 0) ∧ s.size ≤ 15 := by
  unfold spec_ShowAddr.f
  obtain ⟨s1, e1, h1⟩ := dec_3 (a / 16777216) hk (by omega)
  obtain ⟨s2, e2, h2⟩ := dec_3 (a / 65536 % 256) hk (by omega)
  obtain ⟨s3, e3, h3⟩ := dec_3 (a / 256 % 256) hk (by omega)
  obtain ⟨s4, e4, h4⟩ := dec_3 (a % 256) hk (by omega)
  rw [addrOK_f, decide_eq_true h, and_255, and_255, and_255, e1, e2, e3, e4]
  simp only [Option.bind_some, if_true]
  rw [if_pos (by omega), if_pos (by simp only [ByteArray.size_append, dot_size]; omega), if_pos (by simp only [ByteArray.size_append, dot_size]; omega), if_pos (by simp only [ByteArray.size_append, dot_size]; omega), if_pos (by simp only [ByteArray.size_append, dot_size]; omega), if_pos (by simp only [ByteArray.size_append, dot_size]; omega)]
  exact ⟨_, rfl, by simp only [ByteArray.size_append, dot_size]; omega⟩
theorem showP_f (a b : Int) {k : Nat} (hk : 40 ≤ k) : ∃ s, spec_ShowPrefix.f k a b = some (s, if okP a b then 0 else 1) := by
  unfold spec_ShowPrefix.f
  rw [specOK_f _ _ hk]
  simp only [Option.bind_some]
  by_cases h : okP a b
  · obtain ⟨s1, e1, h1⟩ := showA_f h.1 (k := k) (by omega)
    obtain ⟨s2, e2, h2⟩ := dec_3 b (k := k) (by omega) (by have := h.2.1; omega)
    rw [e1, e2]
    simp only [h, decide_true, if_true, Option.bind_some]
    rw [if_pos (by omega), if_pos (by simp only [ByteArray.size_append, dot_size]; omega)]
    exact ⟨_, rfl⟩
  · simp only [h, decide_false, Bool.false_eq_true, if_false]
    exact ⟨_, rfl⟩

/-! ### the law -/
theorem host_f {l : List Int} (hl : l.length ≤ 2097152) {p : Int} (st : Int) (hp : 0 ≤ p) : ∃ r p' st', spec_l02Host.f l p st = some (r, p', st') ∧ (0 ≤ r ∧ r ≤ 4294967295) ∧ 0 ≤ p' := by
  unfold spec_l02Host.f
  obtain ⟨x, p1, s1, e, h0, h1, hp1⟩ := l01n_f hl st (n := 2) hp (by omega) (by omega)
  rw [e]
  simp only [Option.bind_some]
  obtain ⟨y, p2, s2, e, h2, h3, hp2⟩ := l01n_f hl s1 (n := 6) hp1 (by omega) (by omega)
  rw [e]
  refine ⟨_, _, _, rfl, ?_, hp2⟩
  rw [wr64 (a := x * 256) (by omega), wr64 (a := 167772160 + x * 256) (by omega), wr64 (a := 167772160 + x * 256 + 1) (by omega), wr64 (by omega)]
  omega
theorem pre_f {l : List Int} (hl : l.length ≤ 2097152) {p : Int} (st : Int) (hp : 0 ≤ p) {k : Nat} (hk : 40 ≤ k) : ∃ a b p' st', spec_l02Prefix.f k l p st = some (a, b, p', st') ∧ 0 ≤ p' := by
  unfold spec_l02Prefix.f
  obtain ⟨r, p1, s1, e, hr, hp1⟩ := host_f hl st hp
  rw [e]
  simp only [Option.bind_some]
  obtain ⟨x, p2, s2, e, h0, h1, hp2⟩ := l01n_f hl s1 (n := 33) hp1 (by omega) (by omega)
  rw [e]
  simp only [Option.bind_some]
  obtain ⟨y, p3, s3, e, _, _, hp3⟩ := l01n_f hl s2 (n := 2) hp2 (by omega) (by omega)
  rw [e]
  simp only [Option.bind_some]
  split
  · obtain ⟨z, p4, s4, e, h2, h3, hp4⟩ := l01n_f hl s3 (n := 11) hp3 (by omega) (by omega)
    rw [e]
    simp only [Option.bind_some]
    have := sz_pos (22 + z)
    rw [wr64 (a := 22 + z) (by omega), size_f (b := 22 + z) (by omega) hk]
    simp only [Option.bind_some]
    rw [if_neg (by omega)]
    exact ⟨_, _, _, _, rfl, hp4⟩
  · have := sz_pos x
    rw [size_f (b := x) (by omega) hk]
    simp only [Option.bind_some]
    rw [if_neg (by omega)]
    exact ⟨_, _, _, _, rfl, hp3⟩
theorem ill_f {l : List Int} (hl : l.length ≤ 2097152) {p : Int} (st : Int) (hp : 0 ≤ p) {k : Nat} (hk : 40 ≤ k) : ∃ a b p' st', spec_l02Ill.f k l p st = some (a, b, p', st') ∧ 0 ≤ p' := by
  unfold spec_l02Ill.f
  obtain ⟨a, b, p1, s1, e, hp1⟩ := pre_f hl st hp hk
  rw [e]
  simp only [Option.bind_some]
  obtain ⟨x, p2, s2, e, h0, h1, hp2⟩ := l01n_f hl s1 (n := 12) hp1 (by omega) (by omega)
  rw [e]
  simp only [Option.bind_some]
  repeat' split
  all_goals exact ⟨_, _, _, _, rfl, hp2⟩
theorem wide_f {l : List Int} (hl : l.length ≤ 2097152) {p : Int} (st : Int) (hp : 0 ≤ p) : ∃ r p' st', spec_l02Wide.f l p st = some (r, p', st') := by
  unfold spec_l02Wide.f
  obtain ⟨x, p1, s1, e, h0, h1, hp1⟩ := l01n_f hl st (n := 65536) hp (by omega) (by omega)
  rw [e]
  simp only [Option.bind_some]
  obtain ⟨y, p2, s2, e, h2, h3, hp2⟩ := l01n_f hl s1 (n := 65536) hp1 (by omega) (by omega)
  rw [e]
  exact ⟨_, _, _, rfl⟩
theorem daddr_f {l : List Int} (hl : l.length ≤ 2097152) {p : Int} (st : Int) (hp : 0 ≤ p) : ∃ r p' st', spec_l02Addr.f l p st = some (r, p', st') := by
  unfold spec_l02Addr.f
  obtain ⟨x, p1, s1, e, h0, h1, hp1⟩ := l01n_f hl st (n := 8) hp (by omega) (by omega)
  rw [e]
  simp only [Option.bind_some]
  split
  · obtain ⟨r, p2, s2, e⟩ := wide_f hl s1 hp1
    rw [e]
    exact ⟨_, _, _, rfl⟩
  · split
    · obtain ⟨y, p2, s2, e, h2, h3, hp2⟩ := l01n_f hl s1 (n := 10) hp1 (by omega) (by omega)
      rw [e]
      simp only [Option.bind_some]
      rw [if_pos h2, if_pos (by simp; omega)]
      exact ⟨_, _, _, rfl⟩
    · obtain ⟨y, p2, s2, e, h2, h3, hp2⟩ := l01n_f hl s1 (n := 6) hp1 (by omega) (by omega)
      rw [e]
      exact ⟨_, _, _, rfl⟩
theorem dhas_f {l : List Int} (hl : l.length ≤ 2097152) {k : Nat} (hk : 40 ≤ k) (hk2 : l.length < k) : ∃ a b x, spec_DrawPrefixHas.f k l = some (a, b, x) := by
  unfold spec_DrawPrefixHas.f
  obtain ⟨st, e⟩ := l01b_f hl hk2
  rw [e]
  simp only [Option.bind_some]
  obtain ⟨a, b, p1, s1, e, hp1⟩ := ill_f hl st (p := 0) (by omega) hk
  rw [e]
  simp only [Option.bind_some]
  obtain ⟨y, p2, s2, e, h2, h3, hp2⟩ := l01n_f hl s1 (n := 2) hp1 (by omega) (by omega)
  rw [e]
  simp only [Option.bind_some]
  split
  · obtain ⟨z, p3, s3, e, h4, h5, hp3⟩ := l01n_f hl s2 (n := 300) hp2 (by omega) (by omega)
    rw [e]
    exact ⟨_, _, _, rfl⟩
  · obtain ⟨r, p3, s3, e⟩ := daddr_f hl s2 hp2
    rw [e]
    exact ⟨_, _, _, rfl⟩
theorem dcast_f {l : List Int} (hl : l.length ≤ 2097152) {k : Nat} (hk : 40 ≤ k) (hk2 : l.length < k) : ∃ a b, spec_DrawBroadcast.f k l = some (a, b) := by
  unfold spec_DrawBroadcast.f spec_DrawShowPrefix.f
  obtain ⟨st, e⟩ := l01b_f hl hk2
  rw [e]
  simp only [Option.bind_some]
  obtain ⟨a, b, p1, s1, e, hp1⟩ := ill_f hl st (p := 0) (by omega) hk
  rw [e]
  exact ⟨_, _, rfl⟩
theorem j1_f {a b c d : Int} (hp : okP a b) (hq : okP c d) (k : Nat) : laws_FnNest.j1 (k + 1) (a + sz b - 1) (c + sz d - 1) (hasP a b c) (hasP c d a) false a b c d = some true := by
  rw [laws_FnNest.j1, if_neg (by simp), implHas_f, implHas_f]
  simp only [Option.bind_some]
  have hb := sz_pos b
  have hd := sz_pos d
  by_cases h : b ≤ d
  · rw [if_pos h, ← nest_1 hp hq h]
    simp only [beq_self_eq_true, if_true]
    split
    · rename_i h2
      rw [nest_2 (i := 0) hp hq h (by omega) (by rw [Int.add_zero]; exact h2)]
    · rfl
  · rw [if_neg h, ← nest_1 hq hp (by omega)]
    simp only [beq_self_eq_true, if_true]
    split
    · rename_i h2
      rw [nest_2 (i := 0) hq hp (by omega) (by omega) (by rw [Int.add_zero]; exact h2)]
    · rfl
theorem j0_f {a b c d : Int} (hp : okP a b) (hq : okP c d) (k : Nat) : laws_FnNest.j0 (k + 1 + 1) (a + sz b - 1) (c + sz d - 1) false a b c d = some true := by
  rw [laws_FnNest.j0, if_neg (by simp)]
  simp only [implHas_f, Option.bind_some]
  have hb := sz_pos b
  have hd := sz_pos d
  have key1 : hasP a b c ≠ hasP a b (c + sz d - 1) → hasP c d a = true := by
    intro h
    by_cases hbd : b ≤ d
    · exact absurd (nest_1 hp hq hbd) h
    · by_cases h1 : hasP a b c = true
      · exact nest_2 (i := 0) hq hp (by omega) (by omega) (by rw [Int.add_zero]; exact h1)
      · have h2 : hasP a b (c + sz d - 1) = true := by
          cases h3 : hasP a b (c + sz d - 1) with
          | true => rfl
          | false => rw [h3] at h; simp at h; exact absurd h h1
        exact nest_2 (i := sz d - 1) hq hp (by omega) (by omega) (by rw [show c + (sz d - 1) = c + sz d - 1 from by omega]; exact h2)
  have key2 : hasP c d a ≠ hasP c d (a + sz b - 1) → hasP a b c = true := by
    intro h
    by_cases hbd : d ≤ b
    · exact absurd (nest_1 hq hp hbd) h
    · by_cases h1 : hasP c d a = true
      · exact nest_2 (i := 0) hp hq (by omega) (by omega) (by rw [Int.add_zero]; exact h1)
      · have h2 : hasP c d (a + sz b - 1) = true := by
          cases h3 : hasP c d (a + sz b - 1) with
          | true => rfl
          | false => rw [h3] at h; simp at h; exact absurd h h1
        exact nest_2 (i := sz b - 1) hp hq (by omega) (by omega) (by rw [show a + (sz b - 1) = a + sz b - 1 from by omega]; exact h2)
  have J := j1_f hp hq k
  by_cases c1 : hasP a b c = hasP a b (c + sz d - 1)
  · rw [if_neg (by rw [← c1]; simp)]
    by_cases c2 : hasP c d a = hasP c d (a + sz b - 1)
    · rw [if_neg (by rw [← c2]; simp)]
      exact J
    · rw [if_pos (by simpa using c2)]
      have := key2 c2
      rw [this] at J ⊢
      exact J
  · rw [if_pos (by simpa using c1), if_pos (key1 c1)]
    by_cases c2 : hasP c d a = hasP c d (a + sz b - 1)
    · rw [if_neg (by rw [← c2]; simp)]
      exact J
    · rw [if_pos (by simpa using c2)]
      have := key2 c2
      rw [this] at J ⊢
      exact J
theorem FnNest : laws_FnNest.Pure := by
  intro l _ _ _
  by_cases h : (l.length : Int) > 1048576
  · refine ⟨1, ?_⟩
    unfold laws_FnNest.f
    rw [if_pos h]
  · obtain ⟨k, hk⟩ : ∃ k, k = l.length + 100 := ⟨_, rfl⟩
    refine ⟨k + 1 + 1, ?_⟩
    unfold laws_FnNest.f
    rw [if_neg h]
    obtain ⟨a, b, x, e⟩ := dhas_f (l := l) (by omega) (k := k + 1 + 1) (by omega) (by omega)
    rw [e]
    simp only [Option.bind_some]
    rw [if_pos (by simp; omega)]
    obtain ⟨c, d, e⟩ := dcast_f (l := [7] ++ l) (by simp; omega) (k := k + 1 + 1) (by omega) (by simp; omega)
    rw [e]
    simp only [Option.bind_some]
    obtain ⟨s, e⟩ := showP_f a b (k := k + 1 + 1) (by omega)
    rw [e]
    simp only [Option.bind_some]
    obtain ⟨s2, e2⟩ := showP_f c d (k := k + 1 + 1) (by omega)
    rw [e2]
    simp only [Option.bind_some, implHas_f, icast_f]
    by_cases hp : okP a b
    · by_cases hq : okP c d
      · have hb := sz_pos b
        have he := end_le hp
        have h0 := hp.1
        rw [scast_f _ _ (by omega), scast_f _ _ (by omega)]
        simp only [hp, hq, if_true, Option.bind_some]
        have g1 := has_off (i := 0) hp (by omega)
        rw [Int.add_zero] at g1
        have g2 := has_off (i := sz b - 1) hp (by omega)
        rw [show a + (sz b - 1) = a + sz b - 1 from by omega] at g2
        rw [g1, g2, wr64 (a := a + sz b - 1 + 1) (by omega), show a + sz b - 1 + 1 = a + sz b from by omega, has_out hp]
        simp only [if_true]
        exact j0_f hp hq k
      · have g : hasP c d c = false := by unfold hasP; simp [hq]
        rw [g]
        simp [hp, hq]
    · have g : hasP a b a = false := by unfold hasP; simp [hp]
      rw [g]
      simp [hp]

end Go.Proofs.Ytobaoffcepmeiaa.Pure
