/- DecodeSegment of the program returns what DecodeSegment of the reference returns, for all arguments, leaves its argument as it was, and its answer owns its memory; without conditions. -/
import Derived.Test.YtfllcmeakcbiaaaPFnExactDecodeSegmentx9
set_option linter.unusedVariables false
set_option linter.unusedSimpArgs false
namespace Go.Proofs.Ytfllcmeakcbiaaa.Pure
open Go.RowKit Go.Proofs.Ytfllcmeakcbiaaa.PFnExactDecodeSegment Go.Proofs.YtfllcmeakcbiaaaW.PrintWords Go.Proofs.YtfllcmeakcbiaaaW.PrintLast

/-! ### base -/
theorem wf64 {a : Int} (h : (Lit.int .i64 a).wf = true) : -9223372036854775808 ≤ a ∧ a ≤ 9223372036854775807 := by
  have h1 : IntKind.i64.min = -9223372036854775808 := by decide
  have h2 : IntKind.i64.max = 9223372036854775807 := by decide
  simp only [Lit.wf, Bool.and_eq_true, decide_eq_true_eq] at h
  omega
theorem tm_pos {a : Int} (n : Int) (h : 0 ≤ a) : Int.tmod a n = a % n := Int.tmod_eq_emod_of_nonneg h
theorem tm_neg {a : Int} (n : Int) (h : a ≤ 0) : Int.tmod a n = -((-a) % n) := by
  have := Int.neg_tmod (-a) n
  rw [Int.neg_neg] at this
  rw [this, Int.tmod_eq_emod_of_nonneg (by omega)]
theorem td_pos {a : Int} (n : Int) (h : 0 ≤ a) : Int.tdiv a n = a / n := Int.tdiv_eq_ediv_of_nonneg h
theorem wr64 {a : Int} (h : -9223372036854775808 ≤ a ∧ a ≤ 9223372036854775807) : wrap64 a = a := by
  unfold wrap64
  omega
theorem dec_eq {p : Prop} [Decidable p] {b : Bool} (h : b = true ↔ p) : some b = some (decide p) := by
  rw [Option.some.injEq, Bool.eq_iff_iff, decide_eq_true_eq]
  exact h
theorem ite_dec (p q : Prop) [Decidable p] [Decidable q] : (if p then some (decide q) else some false) = some (decide (p ∧ q)) := by
  by_cases h : p <;> simp [h]
theorem beq_dec (a b : Int) : (a == b) = decide (a = b) := by
  rw [Bool.eq_iff_iff]
  simp

/-! ### bits -/
theorem wraps_i64 (n : Int) (h₀ : 0 ≤ n) (h₁ : n < 2 ^ 63) : IntKind.i64.wrap n = n := by rw [IntKind.wrap_i64]; omega
/-- The low bits of any whole number. -/
theorem and_low (i : Nat) (hi : i ≤ 62) (x : Int) : Go.bits .and .i64 x (2 ^ i - 1) = x % 2 ^ i := by
  have hpos : 0 < 2 ^ i := Nat.two_pow_pos i
  have h62 : 2 ^ i ≤ 2 ^ 62 := Nat.pow_le_pow_right (by decide) hi
  have hc : ((2 : Int) ^ i - 1) = ((2 ^ i - 1 : Nat) : Int) := by
    rw [Int.natCast_sub hpos]; simp
  have hx0 : 0 ≤ x % 18446744073709551616 := Int.emod_nonneg _ (by decide)
  have hx : (BitVec.ofInt 64 x).toNat = (x % 18446744073709551616).toNat := by rw [BitVec.toNat_ofInt]; rfl
  have hd : ((2 : Int) ^ i) ∣ 18446744073709551616 := by
    rw [show (18446744073709551616 : Int) = 2 ^ 64 from rfl]
    exact ⟨2 ^ (64 - i), by rw [← Int.pow_add, show i + (64 - i) = 64 from by omega]⟩
  have h2 : ((x % 18446744073709551616).toNat % 2 ^ i : Nat) = (x % 2 ^ i).toNat := by
    apply Int.ofNat.inj
    have e1 : (((x % 18446744073709551616).toNat % 2 ^ i : Nat) : Int) = x % 2 ^ i := by
      rw [Int.natCast_emod, Int.toNat_of_nonneg hx0, Int.natCast_pow]
      exact Int.emod_emod_of_dvd _ hd
    have e2 : 0 ≤ x % 2 ^ i := Int.emod_nonneg _ (by have : (0 : Int) < 2 ^ i := Int.pow_pos (by decide); omega)
    exact e1.trans (Int.toNat_of_nonneg e2).symm
  have e2 : 0 ≤ x % 2 ^ i := Int.emod_nonneg _ (by have : (0 : Int) < 2 ^ i := Int.pow_pos (by decide); omega)
  have e3 : x % 2 ^ i < 2 ^ i := Int.emod_lt_of_pos _ (Int.pow_pos (by decide))
  have e4 : (2 : Int) ^ i ≤ 2 ^ 62 := by exact_mod_cast h62
  have key : Go.bits .and .i64 x (2 ^ i - 1) = IntKind.i64.wrap (((BitVec.ofInt 64 x).toNat &&& (BitVec.ofInt 64 ((2 ^ i - 1 : Nat) : Int)).toNat : Nat) : Int) := by
    rw [hc]
    show IntKind.i64.wrap ((BitVec.ofInt 64 x &&& BitVec.ofInt 64 ((2 ^ i - 1 : Nat) : Int)).toNat : Int) = _
    rw [BitVec.toNat_and]
  rw [key, hx]
  have hm : (BitVec.ofInt 64 ((2 ^ i - 1 : Nat) : Int)).toNat = 2 ^ i - 1 := by
    rw [BitVec.ofInt_natCast, BitVec.toNat_ofNat]
    exact Nat.mod_eq_of_lt (by omega)
  rw [hm, Nat.and_two_pow_sub_one_eq_mod, h2, Int.toNat_of_nonneg e2]
  exact wraps_i64 _ e2 (by omega)
theorem and_65535 (x : Int) : Go.bits .and .i64 x 65535 = x % 65536 := and_low 16 (by decide) x
theorem and_255 (x : Int) : Go.bits .and .i64 x 255 = x % 256 := and_low 8 (by decide) x
theorem nat_and_high (a n : Nat) (ha : a < 2 ^ 32) (hn : n ≤ 32) : a &&& ((2 ^ (32 - n) - 1) * 2 ^ n) = a / 2 ^ n * 2 ^ n := by
  apply Nat.eq_of_testBit_eq
  intro i
  rw [Nat.testBit_and, Nat.testBit_mul_two_pow, Nat.testBit_mul_two_pow, Nat.testBit_div_two_pow, Nat.testBit_two_pow_sub_one]
  by_cases h : n ≤ i
  · simp only [h, decide_true, Bool.true_and]
    rw [show i - n + n = i from by omega]
    by_cases h3 : i - n < 32 - n
    · simp [h3]
    · have : a.testBit i = false := Nat.testBit_lt_two_pow (Nat.lt_of_lt_of_le ha (Nat.pow_le_pow_right (by decide) (by omega)))
      simp [this]
  · simp [h]
theorem and_high (a : Int) (n : Nat) (h0 : 0 ≤ a) (h1 : a ≤ 4294967295) (hn : n ≤ 32) : Go.bits .and .i64 a ((2 ^ (32 - n) - 1) * 2 ^ n) = a / 2 ^ n * 2 ^ n := by
  obtain ⟨b, rfl⟩ := Int.eq_ofNat_of_zero_le h0
  have hc : (((2 : Int) ^ (32 - n) - 1) * 2 ^ n) = (((2 ^ (32 - n) - 1) * 2 ^ n : Nat) : Int) := by
    rw [Int.natCast_mul, Int.natCast_sub (Nat.two_pow_pos _)]; simp
  have hl : (2 ^ (32 - n) - 1) * 2 ^ n ≤ 4294967295 := by
    rw [Nat.sub_mul, ← Nat.pow_add, show 32 - n + n = 32 from by omega]
    have := Nat.two_pow_pos n
    omega
  rw [hc, (bits_nat .i64 63 (by decide) wraps_i64 b _ (by omega) (by omega)).1, nat_and_high b n (by omega) hn]
  simp

/-! ### addr0 -/
theorem in_f (a l h : Int) : spec_l01In.f a l h = some (decide (l ≤ a ∧ a ≤ h)) := by
  unfold spec_l01In.f
  by_cases h1 : a ≥ l
  · rw [if_pos h1]; congr 1; rw [decide_eq_decide]; omega
  · rw [if_neg h1]; congr 1; rw [eq_comm, decide_eq_false_iff_not]; omega

/-! ### addr -/
theorem addrOK_f (a : Int) : spec_l02AddrOK.f a = some (decide (0 ≤ a ∧ a ≤ 4294967295)) := by
  unfold spec_l02AddrOK.f
  rw [in_f]
  rfl
theorem isAddr_f (a : Int) : impl_isAddr.f a = some (decide (0 ≤ a ∧ a ≤ 4294967295)) := by
  unfold impl_isAddr.f
  by_cases h1 : a ≥ 0
  · rw [if_pos h1]; congr 1; rw [decide_eq_decide]; omega
  · rw [if_neg h1]; congr 1; rw [eq_comm, decide_eq_false_iff_not]; omega

/-! ### lists -/
theorem rd_at {xs : List Int} {i : Nat} (h : i < xs.length) : rd xs (i : Int) = xs[i] := by
  unfold rd
  rw [Int.toNat_natCast, List.getD_eq_getElem?_getD, List.getElem?_eq_getElem h]
  rfl
theorem wr_succ {i n : Nat} (h : i < n) (hn : n ≤ 281474976710656) : wrap64 ((i : Int) + 1) = ((i + 1 : Nat) : Int) := by
  rw [wr64 (by omega)]
  omega
theorem maxLen_le {n : Nat} (h : n ≤ 1048576) : n ≤ 281474976710656 := by omega

/-! ### tobytes -/
theorem toB_l (x0 : List Int) (hn : x0.length ≤ 281474976710656) (d : Nat) : ∀ (k i : Nat) (x3 : List Int), i + d = x0.length → d < k → x3.length = x0.length → (∀ j, j < i → x3[j]? = x0[j]?) → laws_toByteS.l0 k x0 x3 (i : Int) = some x0 := by
  induction d with
  | zero =>
    intro k i x3 hi hk hl he
    obtain ⟨k, rfl⟩ : ∃ m, k = m + 1 := ⟨k - 1, by omega⟩
    simp only [laws_toByteS.l0]
    rw [if_neg (by omega)]
    congr 1
    apply List.ext_getElem?
    intro j
    by_cases hj : j < i
    · exact he j hj
    · rw [List.getElem?_eq_none (by omega), List.getElem?_eq_none (by omega)]
  | succ d ih =>
    intro k i x3 hi hk hl he
    obtain ⟨k, rfl⟩ : ∃ m, k = m + 1 := ⟨k - 1, by omega⟩
    simp only [laws_toByteS.l0]
    rw [if_pos (by omega), if_pos (by omega), if_pos (by omega), wr_succ (n := x0.length) (by omega) hn]
    refine ih k (i + 1) _ (by omega) (by omega) (by simp [hl]) ?_
    intro j hj
    rw [Int.toNat_natCast]
    by_cases e : j = i
    · subst e
      rw [List.getElem?_set_self (by omega), rd_at (by omega), List.getElem?_eq_getElem (by omega)]
    · rw [List.getElem?_set_ne (by omega)]
      exact he j (by omega)
theorem toB_f {l : List Int} (hn : l.length ≤ 281474976710656) {k : Nat} (hk : l.length < k) : laws_toByteS.f k l = some l := by
  unfold laws_toByteS.f
  rw [if_pos (by omega), if_pos (by simpa using hn), Int.toNat_natCast]
  exact toB_l l hn l.length k 0 _ (by omega) hk (by simp) (fun j hj => absurd hj (by omega))

/-! ### eqbytes -/
theorem eqB_l (x0 x1 : List Int) (hn : x0.length ≤ 281474976710656) (hl : x0.length = x1.length) (d : Nat) : ∀ (k i : Nat), i + d = x0.length → d < k → (∀ j, j < i → x0[j]? = x1[j]?) → laws_eqByteS.l0 k x0 x1 (i : Int) = some (decide (x0 = x1)) := by
  induction d with
  | zero =>
    intro k i hi hk he
    obtain ⟨k, rfl⟩ : ∃ m, k = m + 1 := ⟨k - 1, by omega⟩
    simp only [laws_eqByteS.l0]
    rw [if_neg (by omega)]
    have : x0 = x1 := by
      apply List.ext_getElem?
      intro j
      by_cases hj : j < i
      · exact he j hj
      · rw [List.getElem?_eq_none (by omega), List.getElem?_eq_none (by omega)]
    simp [this]
  | succ d ih =>
    intro k i hi hk he
    obtain ⟨k, rfl⟩ : ∃ m, k = m + 1 := ⟨k - 1, by omega⟩
    simp only [laws_eqByteS.l0]
    rw [if_pos (by omega), if_pos (by omega), if_pos (by omega), wr_succ (n := x0.length) (by omega) hn, rd_at (by omega), rd_at (by omega)]
    by_cases e : x0[i] = x1[i]
    · rw [if_pos e]
      refine ih k (i + 1) (by omega) (by omega) ?_
      intro j hj
      by_cases ej : j = i
      · subst ej
        rw [List.getElem?_eq_getElem (by omega), List.getElem?_eq_getElem (by omega), e]
      · exact he j (by omega)
    · rw [if_neg e]
      have : x0 ≠ x1 := fun h => by
        subst h
        exact e rfl
      simp [this]
theorem eqB_f {l m : List Int} (hn : l.length ≤ 281474976710656) {k : Nat} (hk : l.length < k) : laws_eqByteS.f k l m = some (decide (l = m)) := by
  unfold laws_eqByteS.f
  by_cases h : l.length = m.length
  · rw [if_pos (by omega)]
    exact eqB_l l m hn h l.length k 0 (by omega) hk (fun j hj => absurd hj (by omega))
  · rw [if_neg (by omega)]
    have : l ≠ m := fun e => h (by rw [e])
    simp [this]

/-! ### l01copy -/
theorem copy_l (x0 : List Int) (hn : x0.length ≤ 1048576) (d : Nat) : ∀ (k i : Nat), i + d = x0.length → d < k → spec_l01Copy.l0 k x0 (x0.take i) (i : Int) = some x0 := by
  induction d with
  | zero =>
    intro k i hi hk
    obtain ⟨k, rfl⟩ : ∃ m, k = m + 1 := ⟨k - 1, by omega⟩
    simp only [spec_l01Copy.l0]
    rw [if_neg (by omega), List.take_of_length_le (by omega)]
  | succ d ih =>
    intro k i hi hk
    obtain ⟨k, rfl⟩ : ∃ m, k = m + 1 := ⟨k - 1, by omega⟩
    simp only [spec_l01Copy.l0]
    rw [if_pos (by omega), if_pos (by omega), if_pos (by rw [List.length_take]; omega), wr_succ (n := x0.length) (by omega) (by omega), rd_at (by omega), ← List.take_succ_eq_append_getElem (by omega)]
    exact ih k (i + 1) (by omega) (by omega)
theorem copy_f {l : List Int} (hn : l.length ≤ 1048576) {k : Nat} (hk : l.length < k) : spec_l01Copy.f k l = some l := copy_l l hn l.length k 0 (by omega) hk

/-! ### l01join -/
theorem join_l (a x1 : List Int) (ha : a.length ≤ 1048576) (hn : x1.length ≤ 1048576) (d : Nat) : ∀ (k i : Nat), i + d = x1.length → d < k → spec_l01Join.l0 k x1 (a ++ x1.take i) (i : Int) = some (a ++ x1) := by
  induction d with
  | zero =>
    intro k i hi hk
    obtain ⟨k, rfl⟩ : ∃ m, k = m + 1 := ⟨k - 1, by omega⟩
    simp only [spec_l01Join.l0]
    rw [if_neg (by omega), List.take_of_length_le (by omega)]
  | succ d ih =>
    intro k i hi hk
    obtain ⟨k, rfl⟩ : ∃ m, k = m + 1 := ⟨k - 1, by omega⟩
    simp only [spec_l01Join.l0]
    rw [if_pos (by omega), if_pos (by omega), if_pos (by rw [List.length_append, List.length_take]; omega), wr_succ (n := x1.length) (by omega) (by omega), rd_at (by omega), List.append_assoc, ← List.take_succ_eq_append_getElem (by omega)]
    exact ih k (i + 1) (by omega) (by omega)
theorem join_f {a b : List Int} (ha : a.length ≤ 1048576) (hb : b.length ≤ 1048576) {k : Nat} (hk : a.length < k) (hk2 : b.length < k) : spec_l01Join.f k a b = some (a ++ b) := by
  unfold spec_l01Join.f
  rw [copy_f ha hk]
  have := join_l a b ha hb b.length k 0 (by omega) hk2
  simpa using this

/-! ### marks -/
/-- n marks from a number on. -/
def mks (a : Int) : Nat → List Int
  | 0 => []
  | n + 1 => mks a n ++ [(a + n) % 256]
theorem mks_len (a : Int) (n : Nat) : (mks a n).length = n := by
  induction n with
  | zero => rfl
  | succ n ih => simp [mks, ih]
theorem mks_at (a : Int) (n : Nat) : ∀ j, j < n → (mks a n)[j]? = some ((a + j) % 256) := by
  induction n with
  | zero => intro j h; omega
  | succ n ih =>
    intro j h
    unfold mks
    by_cases e : j < n
    · rw [List.getElem?_append_left (by rw [mks_len]; exact e)]
      exact ih j e
    · obtain rfl : j = n := by omega
      rw [List.getElem?_append_right (by rw [mks_len]; exact Nat.le_refl _), mks_len]
      simp
theorem markB_l (n : Nat) (a : Int) (ha : 0 ≤ a ∧ a ≤ 1099511627776) (hn : n ≤ 1099511627776) (d : Nat) : ∀ (k i : Nat) (x0 : List Int), x0.length = n → i + d = n → d < k → (∀ j, j < i → x0[j]? = some ((a + j) % 256)) → laws_markByteS.l0 k x0 (a + i) (i : Int) = some (a + n, mks a n) := by
  induction d with
  | zero =>
    intro k i x0 hl hi hk he
    obtain ⟨k, rfl⟩ : ∃ m, k = m + 1 := ⟨k - 1, by omega⟩
    simp only [laws_markByteS.l0]
    rw [if_neg (by omega)]
    congr 1
    rw [Prod.mk.injEq]
    refine ⟨by omega, ?_⟩
    apply List.ext_getElem?
    intro j
    by_cases hj : j < n
    · rw [he j (by omega), mks_at _ _ _ hj]
    · rw [List.getElem?_eq_none (by omega), List.getElem?_eq_none (by rw [mks_len]; omega)]
  | succ d ih =>
    intro k i x0 hl hi hk he
    obtain ⟨k, rfl⟩ : ∃ m, k = m + 1 := ⟨k - 1, by omega⟩
    simp only [laws_markByteS.l0]
    rw [if_pos (by omega), if_pos (by omega), wr64 (a := (i : Int) + 1) (by omega), wr64 (by omega), show a + (i : Int) + 1 = a + ((i + 1 : Nat) : Int) from by omega, show (i : Int) + 1 = ((i + 1 : Nat) : Int) from by omega, Int.toNat_natCast]
    refine ih k (i + 1) _ (by simp [hl]) (by omega) (by omega) ?_
    intro j hj
    by_cases e : j = i
    · subst e
      rw [List.getElem?_set_self (by omega)]
    · rw [List.getElem?_set_ne (by omega)]
      exact he j (by omega)
theorem markB_f {l : List Int} {a : Int} (ha : 0 ≤ a ∧ a ≤ 1099511627776) (hn : l.length ≤ 1099511627776) {k : Nat} (hk : l.length < k) : laws_markByteS.f k l a = some (a + l.length, mks a l.length) := by
  unfold laws_markByteS.f
  have := markB_l l.length a ha hn l.length k 0 l rfl (by omega) hk (fun j hj => absurd hj (by omega))
  simpa using this
theorem heldB_l (n : Nat) (a : Int) (ha : 0 ≤ a ∧ a ≤ 1099511627776) (hn : n ≤ 1099511627776) (d : Nat) : ∀ (k i : Nat), i + d = n → d < k → laws_heldByteS.l0 k (mks a n) (a + i) (i : Int) = some (a + n) := by
  induction d with
  | zero =>
    intro k i hi hk
    obtain ⟨k, rfl⟩ : ∃ m, k = m + 1 := ⟨k - 1, by omega⟩
    simp only [laws_heldByteS.l0]
    rw [if_neg (by rw [mks_len]; omega)]
    congr 1
    omega
  | succ d ih =>
    intro k i hi hk
    obtain ⟨k, rfl⟩ : ∃ m, k = m + 1 := ⟨k - 1, by omega⟩
    simp only [laws_heldByteS.l0]
    have hr : rd (mks a n) (i : Int) = (a + i) % 256 := by
      unfold rd
      rw [Int.toNat_natCast, List.getD_eq_getElem?_getD, mks_at a n i (by omega)]
      rfl
    rw [if_pos (by rw [mks_len]; omega), if_pos (by omega), if_pos hr, wr64 (a := (i : Int) + 1) (by omega), wr64 (by omega), show a + (i : Int) + 1 = a + ((i + 1 : Nat) : Int) from by omega, show (i : Int) + 1 = ((i + 1 : Nat) : Int) from by omega]
    exact ih k (i + 1) (by omega) (by omega)
theorem heldB_f {n : Nat} {a : Int} (ha : 0 ≤ a ∧ a ≤ 1099511627776) (hn : n ≤ 1099511627776) {k : Nat} (hk : n < k) : laws_heldByteS.f k (mks a n) a = some (a + n) := by
  unfold laws_heldByteS.f
  have := heldB_l n a ha hn n k 0 (by omega) hk
  simpa using this

/-! ### wsum -/
/-- What a sum of numbers of two bytes folds to. -/
def fold (s : Int) : Int := if s = 0 then 0 else (s - 1) % 65535 + 1
theorem fold_le (s : Int) (h : 0 ≤ s) : 0 ≤ fold s ∧ fold s ≤ 65535 := by unfold fold; split <;> omega
theorem fold_low {s : Int} (h : 0 ≤ s ∧ s ≤ 65535) : fold s = s := by unfold fold; split <;> omega
theorem fold_step {s : Int} (h : s > 65535) : fold (s / 65536 + s % 65536) = fold s := by
  unfold fold
  rw [if_neg (by omega), if_neg (by omega)]
  omega
theorem fold_sub {s : Int} (h : s > 65535) : fold (s - 65535) = fold s := by
  unfold fold
  rw [if_neg (by omega), if_neg (by omega)]
  omega
/-- The sum of bytes: the one at a place with 'b' counts 256 times, and so on in turn. -/
def wsp : Bool → List Int → Int
  | _, [] => 0
  | true, a :: r => a * 256 + wsp false r
  | false, a :: r => a + wsp true r
/-- All are bytes. -/
def Bs (l : List Int) : Prop := ∀ x ∈ l, 0 ≤ x ∧ x ≤ 255
theorem Bs.get {l : List Int} (h : Bs l) {i : Nat} (hi : i < l.length) : 0 ≤ l[i] ∧ l[i] ≤ 255 := h _ (List.getElem_mem hi)
theorem Bs.of {l : List Int} (h : ∀ x ∈ l, (Lit.int .u8 x).wf = true) : Bs l := by
  intro x hx
  have hw := h x hx
  have h1 : IntKind.u8.min = 0 := by decide
  have h2 : IntKind.u8.max = 255 := by decide
  simp only [Lit.wf, Bool.and_eq_true, decide_eq_true_eq] at hw
  omega
theorem Bs.append {a b : List Int} (ha : Bs a) (hb : Bs b) : Bs (a ++ b) := by
  intro x hx
  rcases List.mem_append.1 hx with h | h
  · exact ha x h
  · exact hb x h
theorem Bs.take {l : List Int} (h : Bs l) (n : Nat) : Bs (l.take n) := fun x hx => h x (List.mem_of_mem_take hx)
theorem Bs.drop {l : List Int} (h : Bs l) (n : Nat) : Bs (l.drop n) := fun x hx => h x (List.mem_of_mem_drop hx)
theorem Bs.tail {a : Int} {l : List Int} (h : Bs (a :: l)) : Bs l := fun x hx => h x (List.mem_cons_of_mem _ hx)
theorem wsp_bd (l : List Int) : ∀ (b : Bool), Bs l → 0 ≤ wsp b l ∧ wsp b l ≤ 65280 * (l.length : Int) := by
  induction l with
  | nil => intro b _; cases b <;> simp [wsp]
  | cons a r ih =>
    intro b h
    have ha := h a (List.mem_cons_self ..)
    have h1 := ih true h.tail
    have h2 := ih false h.tail
    cases b <;> (simp only [wsp, List.length_cons]; omega)
theorem drop_cons {l : List Int} {i : Nat} (h : i < l.length) : l.drop i = l[i] :: l.drop (i + 1) := List.drop_eq_getElem_cons h
/-- The checksum of bytes. -/
def csum (l : List Int) : Int := 65535 - fold (wsp true l)
theorem csum_le {l : List Int} (h : Bs l) : 0 ≤ csum l ∧ csum l ≤ 65535 := by
  have := fold_le _ (wsp_bd l true h).1
  unfold csum
  omega

/-! ### specsum -/
theorem ssum_l (l : List Int) (hb : Bs l) (hn : l.length ≤ 1048576) (d : Nat) : ∀ (k i : Nat) (s : Int), l.length - i ≤ d → d < k → 0 ≤ s → s ≤ 65535 → i ≤ l.length + 1 → spec_l01Sum.l0 k l s (i : Int) = some (fold (s + wsp true (l.drop i))) := by
  induction d with
  | zero =>
    intro k i s hi hk h0 h1 hl
    obtain ⟨k, rfl⟩ : ∃ m, k = m + 1 := ⟨k - 1, by omega⟩
    simp only [spec_l01Sum.l0]
    rw [if_neg (by omega), List.drop_eq_nil_of_le (by omega)]
    simp only [wsp, Int.add_zero]
    rw [fold_low ⟨h0, h1⟩]
  | succ d ih =>
    intro k i s hi hk h0 h1 hl
    obtain ⟨k, rfl⟩ : ∃ m, k = m + 1 := ⟨k - 1, by omega⟩
    simp only [spec_l01Sum.l0]
    by_cases c1 : i < l.length
    · have b1 := hb.get c1
      rw [if_pos (by omega), if_pos (by omega), wr64 (a := (i : Int) + 1) (by omega), rd_at c1, wr64 (a := l[i]) (by omega), wr64 (a := l[i] * 256) (by omega), drop_cons c1]
      by_cases c2 : i + 1 < l.length
      · have b2 := hb.get c2
        have bd := wsp_bd (l.drop (i + 1 + 1)) true (hb.drop _)
        rw [if_pos (by omega), if_pos (by omega), show (i : Int) + 1 = ((i + 1 : Nat) : Int) from by omega, rd_at c2, wr64 (a := l[i + 1]) (by omega), wr64 (a := l[i] * 256 + l[i + 1]) (by omega), wr64 (a := s + (l[i] * 256 + l[i + 1])) (by omega), wr64 (a := (i : Int) + 2) (by omega), show (i : Int) + 2 = ((i + 1 + 1 : Nat) : Int) from by omega, drop_cons c2]
        simp only [wsp]
        by_cases c3 : s + (l[i] * 256 + l[i + 1]) > 65535
        · rw [if_pos c3, wr64 (by omega), ih k _ _ (by omega) (by omega) (by omega) (by omega) (by omega)]
          rw [← fold_sub (s := s + (l[i] * 256 + (l[i + 1] + wsp true (l.drop (i + 1 + 1))))) (by omega)]
          congr 2
          omega
        · rw [if_neg c3, ih k _ _ (by omega) (by omega) (by omega) (by omega) (by omega)]
          congr 2
          omega
      · rw [if_neg (by omega), wr64 (a := s + l[i] * 256) (by omega), wr64 (a := (i : Int) + 2) (by omega), show (i : Int) + 2 = ((i + 2 : Nat) : Int) from by omega, List.drop_eq_nil_of_le (show l.length ≤ i + 1 by omega)]
        have e2 : l.drop (i + 2) = [] := List.drop_eq_nil_of_le (by omega)
        simp only [wsp, Int.add_zero]
        by_cases c3 : s + l[i] * 256 > 65535
        · rw [if_pos c3, wr64 (by omega), ih k _ _ (by omega) (by omega) (by omega) (by omega) (by omega), e2]
          simp only [wsp, Int.add_zero]
          rw [← fold_sub (s := s + l[i] * 256) c3]
        · rw [if_neg c3, ih k _ _ (by omega) (by omega) (by omega) (by omega) (by omega), e2]
          simp only [wsp, Int.add_zero]
    · rw [if_neg (by omega), List.drop_eq_nil_of_le (by omega)]
      simp only [wsp, Int.add_zero]
      rw [fold_low ⟨h0, h1⟩]
theorem scheck_f {l : List Int} (hb : Bs l) (hn : l.length ≤ 1048576) {k : Nat} (hk : l.length < k) : spec_Checksum.f k l = some (csum l) := by
  unfold spec_Checksum.f spec_l01Sum.f
  have h := ssum_l l hb hn l.length k 0 0 (by omega) hk (by omega) (by omega) (by omega)
  rw [show ((0 : Nat) : Int) = 0 from rfl] at h
  have bd := wsp_bd l true hb
  have fl := fold_le _ bd.1
  rw [h]
  simp only [Option.bind_some, List.drop_zero, Int.zero_add]
  rw [wr64 (by omega)]
  rfl

/-! ### carried -/
theorem wrap_u64 (n : Int) : IntKind.u64.wrap n = n % 18446744073709551616 := by simp [IntKind.wrap, IntKind.bits, IntKind.signed]
theorem wru {x : Int} (h : 0 ≤ x ∧ x < 18446744073709551616) : IntKind.u64.wrap x = x := by rw [wrap_u64]; omega
theorem wraps_u64 (n : Int) (h₀ : 0 ≤ n) (h₁ : n < 2 ^ 63) : IntKind.u64.wrap n = n := by rw [wrap_u64]; omega
theorem low_u64 (i : Nat) (hi : i ≤ 62) (x : Int) (h0 : 0 ≤ x) (h1 : x < 18446744073709551616) : Go.bits .and .u64 x (2 ^ i - 1) = x % 2 ^ i := by
  obtain ⟨a, rfl⟩ := Int.eq_ofNat_of_zero_le h0
  have hpos : 0 < 2 ^ i := Nat.two_pow_pos i
  have h62 : 2 ^ i ≤ 2 ^ 62 := Nat.pow_le_pow_right (by decide) hi
  have hc : ((2 : Int) ^ i - 1) = ((2 ^ i - 1 : Nat) : Int) := by
    rw [Int.natCast_sub hpos]; simp
  have hw : ∀ n : Int, 0 ≤ n → n < 2 ^ 64 → IntKind.u64.wrap n = n := fun n a b => by rw [wrap_u64]; omega
  rw [hc, (bits_nat .u64 64 (by decide) hw a _ (by omega) (by omega)).1, Nat.and_two_pow_sub_one_eq_mod]
  simp
theorem u64_65535 (x : Int) (h0 : 0 ≤ x) (h1 : x < 18446744073709551616) : Go.bits .and .u64 x 65535 = x % 65536 := low_u64 16 (by decide) x h0 h1
theorem not_u64 (x : Int) (h0 : 0 ≤ x) (h1 : x < 18446744073709551616) : Go.bits .xor .u64 18446744073709551615 x = 18446744073709551615 - x := by
  obtain ⟨a, rfl⟩ := Int.eq_ofNat_of_zero_le h0
  have key : Go.bits .xor .u64 18446744073709551615 (a : Int) = IntKind.u64.wrap ((BitVec.ofInt 64 18446744073709551615 ^^^ BitVec.ofInt 64 (a : Int)).toNat : Int) := rfl
  rw [key, show BitVec.ofInt 64 18446744073709551615 = BitVec.allOnes 64 from by decide, BitVec.allOnes_xor, BitVec.toNat_not, BitVec.ofInt_natCast, BitVec.toNat_ofNat, wrap_u64]
  omega
theorem not_i64 (x : Int) (h : -9223372036854775808 ≤ x ∧ x ≤ 9223372036854775807) : Go.bits .xor .i64 (-1) x = -1 - x := by
  have key : Go.bits .xor .i64 (-1) x = IntKind.i64.wrap ((BitVec.ofInt 64 (-1) ^^^ BitVec.ofInt 64 x).toNat : Int) := rfl
  rw [key, show BitVec.ofInt 64 (-1) = BitVec.allOnes 64 from by decide, BitVec.allOnes_xor, BitVec.toNat_not, BitVec.toNat_ofInt, IntKind.wrap_i64]
  omega
theorem carried_f {s : Int} (h0 : 0 ≤ s) (h1 : s < 281474976710656) {k : Nat} (hk : 8 ≤ k) : impl_carried.f k s = some (fold s) := by
  have h8 : impl_carried.f 8 s = some (fold s) := by
    unfold impl_carried.f
    have step : ∀ (k : Nat) (t : Int), 0 ≤ t → t < 281474976710656 → t > 65535 → impl_carried.l0 (k + 1) t = impl_carried.l0 k (t / 65536 + t % 65536) := by
      intro k t a b c
      simp only [impl_carried.l0]
      rw [if_pos c, u64_65535 _ a (by omega), wrap_u64, Int.emod_eq_of_lt (by omega) (by omega)]
    have stop : ∀ (k : Nat) (t : Int), 0 ≤ t → t ≤ 65535 → impl_carried.l0 (k + 1) t = some (fold t) := by
      intro k t a b
      simp only [impl_carried.l0]
      rw [if_neg (by omega), fold_low ⟨a, b⟩]
    by_cases a1 : s > 65535
    · rw [step 7 s h0 h1 a1, ← fold_step a1]
      generalize hs : s / 65536 + s % 65536 = s1
      have b1 : 0 ≤ s1 ∧ s1 < 4295032832 := by omega
      by_cases a2 : s1 > 65535
      · rw [step 6 s1 (by omega) (by omega) a2, ← fold_step a2]
        generalize hs2 : s1 / 65536 + s1 % 65536 = s2
        have b2 : 0 ≤ s2 ∧ s2 < 196608 := by omega
        by_cases a3 : s2 > 65535
        · rw [step 5 s2 (by omega) (by omega) a3, ← fold_step a3]
          generalize hs3 : s2 / 65536 + s2 % 65536 = s3
          have b3 : 0 ≤ s3 ∧ s3 < 65540 := by omega
          by_cases a4 : s3 > 65535
          · rw [step 4 s3 (by omega) (by omega) a4, ← fold_step a4]
            exact stop 3 _ (by omega) (by omega)
          · exact stop 4 _ (by omega) (by omega)
        · exact stop 5 _ (by omega) (by omega)
      · exact stop 6 _ (by omega) (by omega)
    · exact stop 7 _ (by omega) (by omega)
  exact at_rounds (fun k => impl_carried.mono s k) hk h8

/-! ### implsum -/
theorem isum_l (l : List Int) (hb : Bs l) (hn : l.length ≤ 1048576) (d : Nat) : ∀ (k i : Nat) (s : Int), i + d = l.length → d + 8 < k → 0 ≤ s → s + 65280 * (d : Int) < 281474976710656 → impl_Checksum.l0 k s l (l.length : Int) (i : Int) = some (65535 - fold (s + wsp (i % 2 == 0) (l.drop i))) := by
  induction d with
  | zero =>
    intro k i s hi hk h0 h1
    obtain ⟨k, rfl⟩ : ∃ m, k = m + 1 := ⟨k - 1, by omega⟩
    simp only [impl_Checksum.l0]
    rw [if_neg (by omega), List.drop_eq_nil_of_le (by omega), carried_f h0 (by omega) (by omega)]
    have e : ∀ b, wsp b [] = 0 := fun b => by cases b <;> rfl
    rw [e]
    simp only [Option.bind_some, Int.add_zero]
    have fl := fold_le s h0
    rw [not_u64 _ fl.1 (by omega), u64_65535 _ (by omega) (by omega), wr64 (by omega)]
    congr 1
    omega
  | succ d ih =>
    intro k i s hi hk h0 h1
    obtain ⟨k, rfl⟩ : ∃ m, k = m + 1 := ⟨k - 1, by omega⟩
    have c1 : i < l.length := by omega
    have b1 := hb.get c1
    simp only [impl_Checksum.l0]
    rw [if_pos (by omega), if_pos (by omega), if_pos (by omega), rd_at c1, tm_pos _ (by omega), wr_succ c1 (by omega), drop_cons c1, wrap_u64 l[i], Int.emod_eq_of_lt b1.1 (by omega)]
    by_cases c2 : i % 2 = 0
    · rw [if_pos (by omega), wrap_u64 (l[i] * 256), Int.emod_eq_of_lt (by omega) (by omega), wrap_u64, Int.emod_eq_of_lt (by omega) (by omega), ih k (i + 1) _ (by omega) (by omega) (by omega) (by omega)]
      rw [show (i % 2 == 0) = true from by simp [c2], show ((i + 1) % 2 == 0) = false from by simp; omega]
      simp only [wsp]
      congr 3
      omega
    · rw [if_neg (by omega), wrap_u64, Int.emod_eq_of_lt (by omega) (by omega), ih k (i + 1) _ (by omega) (by omega) (by omega) (by omega)]
      rw [show (i % 2 == 0) = false from by simp; omega, show ((i + 1) % 2 == 0) = true from by simp; omega]
      simp only [wsp]
      congr 3
      omega
theorem icheck_f {l : List Int} (hb : Bs l) (hn : l.length ≤ 1048576) {k : Nat} (hk : l.length + 8 < k) : impl_Checksum.f k l = some (csum l) := by
  unfold impl_Checksum.f
  have h := isum_l l hb hn l.length k 0 0 (by omega) hk (by omega) (by omega)
  rw [show ((0 : Nat) : Int) = 0 from rfl] at h
  rw [h]
  simp only [List.drop_zero, Int.zero_add]
  rfl

/-! ### num -/
/-- The number that bytes behind a number tell, the high one first. -/
def numa : Int → List Int → Int
  | a, [] => a
  | a, b :: r => numa (a * 256 + b) r
theorem pow_le6 {i : Nat} (h : i ≤ 6) : (2 : Int) ^ (8 * i) ≤ 281474976710656 := by
  rcases (show i = 0 ∨ i = 1 ∨ i = 2 ∨ i = 3 ∨ i = 4 ∨ i = 5 ∨ i = 6 by omega) with rfl | rfl | rfl | rfl | rfl | rfl | rfl <;> decide
theorem pow_8 (i : Nat) : (2 : Int) ^ (8 * (i + 1)) = 2 ^ (8 * i) * 256 := by
  rw [show 8 * (i + 1) = 8 * i + 8 from by omega, Int.pow_add]
  rfl
theorem numa_bd (l : List Int) : ∀ (i : Nat) (a : Int), Bs l → 0 ≤ a → a < 2 ^ (8 * i) → 0 ≤ numa a l ∧ numa a l < 2 ^ (8 * (i + l.length)) := by
  induction l with
  | nil => intro i a _ h0 h1; exact ⟨h0, h1⟩
  | cons b r ih =>
    intro i a hb h0 h1
    have hb0 := hb b (List.mem_cons_self ..)
    have e := pow_8 i
    have := ih (i + 1) (a * 256 + b) hb.tail (by omega) (by omega)
    rw [show i + 1 + r.length = i + (b :: r).length from by simp; omega] at this
    exact this

/-! ### specnum -/
theorem snum_l (l : List Int) (hb : Bs l) (hn : l.length ≤ 7) (d : Nat) : ∀ (k i : Nat) (s : Int), i + d = l.length → d < k → 0 ≤ s → s < 2 ^ (8 * i) → spec_l03Num.l0 k l s (i : Int) = some (numa s (l.drop i)) := by
  induction d with
  | zero =>
    intro k i s hi hk h0 h1
    obtain ⟨k, rfl⟩ : ∃ m, k = m + 1 := ⟨k - 1, by omega⟩
    simp only [spec_l03Num.l0]
    rw [if_neg (by omega), List.drop_eq_nil_of_le (by omega)]
    rfl
  | succ d ih =>
    intro k i s hi hk h0 h1
    obtain ⟨k, rfl⟩ : ∃ m, k = m + 1 := ⟨k - 1, by omega⟩
    have c1 : i < l.length := by omega
    have b1 := hb.get c1
    have p1 := pow_le6 (i := i) (by omega)
    have p2 := pow_8 i
    simp only [spec_l03Num.l0]
    rw [if_pos (by omega), if_pos (by omega), rd_at c1, wr64 (a := l[i]) (by omega), wr64 (a := s * 256) (by omega), wr64 (a := s * 256 + l[i]) (by omega), wr_succ c1 (by omega), ih k (i + 1) _ (by omega) (by omega) (by omega) (by omega), drop_cons c1]
    rfl
theorem snum_f {l : List Int} (hb : Bs l) (hn : l.length ≤ 7) {k : Nat} (hk : l.length < k) : spec_l03Num.f k l = some (numa 0 l) := by
  unfold spec_l03Num.f
  have := snum_l l hb hn l.length k 0 0 (by omega) hk (by omega) (by decide)
  simpa using this

/-! ### implget -/
theorem or_byte {s b : Int} (h0 : 0 ≤ s) (h1 : s < 281474976710656) (hb : 0 ≤ b ∧ b ≤ 255) : Go.bits .or .i64 (s * 256) b = s * 256 + b :=
  bits_join .i64 63 (by decide) wraps_i64 8 (s * 256) b (by omega) (by omega) (by omega) hb.1 (by omega) (by omega)
theorem iget_l (l : List Int) (hb : Bs l) (hn : l.length ≤ 7) (d : Nat) : ∀ (k i : Nat) (s : Int), i + d = l.length → d < k → 0 ≤ s → s < 2 ^ (8 * i) → impl_get.l0 k s l (l.length : Int) (i : Int) = some (numa s (l.drop i)) := by
  induction d with
  | zero =>
    intro k i s hi hk h0 h1
    obtain ⟨k, rfl⟩ : ∃ m, k = m + 1 := ⟨k - 1, by omega⟩
    simp only [impl_get.l0]
    rw [if_neg (by omega), List.drop_eq_nil_of_le (by omega)]
    rfl
  | succ d ih =>
    intro k i s hi hk h0 h1
    obtain ⟨k, rfl⟩ : ∃ m, k = m + 1 := ⟨k - 1, by omega⟩
    have c1 : i < l.length := by omega
    have b1 := hb.get c1
    have p1 := pow_le6 (i := i) (by omega)
    have p2 := pow_8 i
    simp only [impl_get.l0]
    rw [if_pos (by omega), if_pos (by omega), if_pos (by omega), rd_at c1, wr64 (a := l[i]) (by omega), wr64 (a := s * 256) (by omega), or_byte h0 (by omega) b1, wr_succ c1 (by omega), ih k (i + 1) _ (by omega) (by omega) (by omega) (by omega), drop_cons c1]
    rfl
theorem iget_f {l : List Int} (hb : Bs l) (hn : l.length ≤ 7) {k : Nat} (hk : l.length < k) : impl_get.f k l = some (numa 0 l) := by
  unfold impl_get.f
  have := iget_l l hb hn l.length k 0 0 (by omega) hk (by omega) (by decide)
  simpa using this

/-! ### dup -/
theorem dup_f {l : List Int} (h : l.length ≤ 1048576) : impl_dup.f l = some l := by
  unfold impl_dup.f
  rw [if_pos (by simp; omega)]
  rfl

/-! ### be -/
/-- The low n bytes of a number, the high one first. -/
def be : Nat → Int → List Int
  | 0, _ => []
  | n + 1, v => (v / 2 ^ (8 * n) % 256) :: be n v
theorem be_len (n : Nat) (v : Int) : (be n v).length = n := by
  induction n with
  | zero => rfl
  | succ n ih => simp [be, ih]

/-! ### specput -/
theorem sput_l (v : Int) (n : Nat) : ∀ (k : Nat) (x : List Int), n ≤ 8 → x.length + n ≤ 1048576 → n < k → spec_l03Put.l0 k v x ((n : Int) - 1) = some (x ++ be n v) := by
  induction n with
  | zero =>
    intro k x hn hx hk
    obtain ⟨k, rfl⟩ : ∃ m, k = m + 1 := ⟨k - 1, by omega⟩
    simp only [spec_l03Put.l0]
    rw [if_neg (by omega)]
    simp [be]
  | succ n ih =>
    intro k x hn hx hk
    obtain ⟨k, rfl⟩ : ∃ m, k = m + 1 := ⟨k - 1, by omega⟩
    simp only [spec_l03Put.l0]
    have h8 : IntKind.u64.wrap (wrap64 (8 * (((n + 1 : Nat) : Int) - 1))) = ((8 * n : Nat) : Int) := by
      rw [wr64 (by omega)]
      simp only [IntKind.wrap, IntKind.bits, IntKind.signed]
      simp
      omega
    rw [if_pos (by omega), h8, if_pos (by omega), if_pos (by omega), wr64 (by omega), show ((n + 1 : Nat) : Int) - 1 - 1 = (n : Int) - 1 from by omega]
    rw [ih k _ (by omega) (by simp; omega) (by omega)]
    unfold shr
    rw [show min ((8 * n : Nat) : Int).toNat IntKind.i64.bits = 8 * n from by rw [Int.toNat_natCast]; show min (8 * n) 64 = 8 * n; omega]
    simp [be, List.append_assoc]
theorem sput_f {v : Int} {n : Nat} (hn : n ≤ 8) {k : Nat} (hk : n < k) : spec_l03Put.f k v (n : Int) = some (be n v) := by
  unfold spec_l03Put.f
  rw [wr64 (by omega), sput_l v n k [] hn (by simp; omega) hk]
  rfl

/-! ### implput -/
theorem iput_l (v : Int) (n : Nat) : ∀ (k : Nat) (x : List Int), n ≤ 8 → x.length + n ≤ 1048576 → n < k → impl_put.l0 k x v ((n : Int) - 1) = some (x ++ be n v) := by
  induction n with
  | zero =>
    intro k x hn hx hk
    obtain ⟨k, rfl⟩ : ∃ m, k = m + 1 := ⟨k - 1, by omega⟩
    simp only [impl_put.l0]
    rw [if_neg (by omega)]
    simp [be]
  | succ n ih =>
    intro k x hn hx hk
    obtain ⟨k, rfl⟩ : ∃ m, k = m + 1 := ⟨k - 1, by omega⟩
    simp only [impl_put.l0]
    have h8 : wrap64 (8 * (((n + 1 : Nat) : Int) - 1)) = ((8 * n : Nat) : Int) := by
      rw [wr64 (by omega)]
      omega
    rw [if_pos (by omega), h8, if_pos (by omega), if_pos (by omega), wr64 (by omega), show ((n + 1 : Nat) : Int) - 1 - 1 = (n : Int) - 1 from by omega]
    rw [ih k _ (by omega) (by simp; omega) (by omega)]
    unfold shr
    rw [show min ((8 * n : Nat) : Int).toNat IntKind.u64.bits = 8 * n from by rw [Int.toNat_natCast]; show min (8 * n) 64 = 8 * n; omega]
    have hw : IntKind.u64.wrap v = v % 18446744073709551616 := by simp [IntKind.wrap, IntKind.bits, IntKind.signed]
    have hb : v % 18446744073709551616 / 2 ^ (8 * n) % 256 = v / 2 ^ (8 * n) % 256 := by
      rcases (show n = 0 ∨ n = 1 ∨ n = 2 ∨ n = 3 ∨ n = 4 ∨ n = 5 ∨ n = 6 ∨ n = 7 by omega) with rfl | rfl | rfl | rfl | rfl | rfl | rfl | rfl <;> simp <;> omega
    rw [hw, hb]
    simp [be, List.append_assoc]
theorem iput_f {l : List Int} {v : Int} {n : Nat} (hn : n ≤ 8) (hl : l.length + n ≤ 1048576) {k : Nat} (hk : n < k) : impl_put.f k l (n : Int) v = some (l ++ be n v) := by
  unfold impl_put.f
  rw [wr64 (by omega), iput_l v n k l hn hl hk]

/-! ### bebytes -/
theorem be_bytes (n : Nat) (v : Int) : Bs (be n v) := by
  induction n with
  | zero => intro x hx; cases hx
  | succ n ih =>
    intro x hx
    rcases List.mem_cons.1 hx with rfl | h
    · omega
    · exact ih x h

/-! ### falsehead -/
def fhead (a b c d : Int) : List Int := be 4 a ++ be 4 b ++ [0, c % 256] ++ be 2 d
theorem fhead_len (a b c d : Int) : (fhead a b c d).length = 12 := by simp [fhead, be_len]
theorem sfh_f (a b c d : Int) {k : Nat} (hk : 40 ≤ k) : spec_FalseHead.f k a b c d = some (fhead a b c d) := by
  unfold spec_FalseHead.f fhead
  rw [show (4 : Int) = ((4 : Nat) : Int) from rfl, show (2 : Int) = ((2 : Nat) : Int) from rfl, sput_f (by omega) (by omega), sput_f (by omega) (by omega), sput_f (by omega) (by omega)]
  simp only [Option.bind_some]
  rw [join_f (by simp [be_len]) (by simp [be_len]) (by simp [be_len]; omega) (by simp [be_len]; omega)]
  simp only [Option.bind_some]
  rw [join_f (by simp [be_len]) (by simp) (by simp [be_len]; omega) (by simp; omega)]
  simp only [Option.bind_some]
  rw [join_f (by simp [be_len]) (by simp [be_len]) (by simp [be_len]; omega) (by simp [be_len]; omega)]
  rfl
theorem ifh_f (a b c d : Int) {k : Nat} (hk : 40 ≤ k) : impl_FalseHead.f k a b c d = some (fhead a b c d) := by
  unfold impl_FalseHead.f fhead
  rw [show (4 : Int) = ((4 : Nat) : Int) from rfl, show (2 : Int) = ((2 : Nat) : Int) from rfl, iput_f (by omega) (by simp) (by omega)]
  simp only [Option.bind_some, List.nil_append]
  rw [iput_f (by omega) (by simp [be_len]) (by omega)]
  simp only [Option.bind_some]
  rw [if_pos (by simp [be_len]), iput_f (by omega) (by simp [be_len]) (by omega)]
  rfl
theorem fhead_bytes (a b c d : Int) : Bs (fhead a b c d) := by
  unfold fhead
  refine Bs.append (Bs.append (Bs.append (be_bytes _ _) (be_bytes _ _)) ?_) (be_bytes _ _)
  intro x hx
  simp only [List.mem_cons, List.not_mem_nil, or_false] at hx
  rcases hx with rfl | rfl <;> omega

/-! ### l10sum -/
theorem l10_f {l : List Int} (hb : Bs l) (hn : l.length ≤ 1000000) (a b c : Int) {k : Nat} (hk : l.length + 40 ≤ k) : spec_l10Sum.f k l a b c = some (csum (fhead a b c (l.length : Int) ++ l)) := by
  unfold spec_l10Sum.f
  have hl := fhead_len a b c (l.length : Int)
  rw [sfh_f _ _ _ _ (by omega)]
  simp only [Option.bind_some]
  rw [join_f (by omega) (by omega) (by omega) (by omega)]
  simp only [Option.bind_some]
  rw [scheck_f ((fhead_bytes _ _ _ _).append hb) (by simp; omega) (by simp; omega)]
  rfl

/-! ### stretch -/
theorem eqS_l (x : List S60) (hn : x.length ≤ 1048576) (d : Nat) : ∀ (k i : Nat), i + d = x.length → d < k → laws_eqStretchS.l0 k x x (i : Int) = some true := by
  induction d with
  | zero =>
    intro k i hi hk
    obtain ⟨k, rfl⟩ : ∃ m, k = m + 1 := ⟨k - 1, by omega⟩
    simp only [laws_eqStretchS.l0]
    rw [if_neg (by omega)]
  | succ d ih =>
    intro k i hi hk
    obtain ⟨k, rfl⟩ : ∃ m, k = m + 1 := ⟨k - 1, by omega⟩
    simp only [laws_eqStretchS.l0, laws_eqStretch.f, if_true, Option.bind_some]
    rw [if_pos (by omega), if_pos (by omega), if_pos (by omega), wr_succ (n := x.length) (by omega) (by omega)]
    exact ih k (i + 1) (by omega) (by omega)
theorem eqS_same {l : List S60} (hn : l.length ≤ 1048576) {k : Nat} (hk : l.length < k) : laws_eqStretchS.f k l l = some true := by
  unfold laws_eqStretchS.f
  rw [if_pos rfl]
  exact eqS_l l hn l.length k 0 (by omega) hk

/-! ### the law -/
abbrev XO := Int × Int × Int × Int × Int × Int × Int × Bool × Int × Bool × List S60 × Bool
abbrev XD := Int × Int × Int × Int × Int × Int × Int × Bool × Int × Bool × List S60 × List Int × Int
/-- the stretches of an option's bytes, at most n -/
def sgo : Nat → List Int → List S60
  | 0, _ => []
  | n + 1, v => if v.length = 0 then [] else (⟨numa 0 (v.take 4), numa 0 ((v.take 8).drop 4)⟩ : S60) :: sgo n (v.drop 8)
theorem sgo_len (n : Nat) : ∀ v, (sgo n v).length ≤ n := by
  induction n with
  | zero => intro v; simp [sgo]
  | succ n ih =>
    intro v
    unfold sgo
    split
    · simp
    · have := ih (v.drop 8); simp; omega
theorem cut4 (v : List Int) (i : Nat) : (v.take (i + 4)).drop i = (v.drop i).take 4 := by rw [List.drop_take]; congr 1; omega
theorem cut8 (v : List Int) (i : Nat) : (v.take (i + 8)).drop (i + 4) = ((v.drop i).take 8).drop 4 := by
  rw [List.drop_take, List.drop_take, List.drop_drop]; congr 1; omega
theorem Bs.mid {l : List Int} (h : Bs l) (i j : Nat) : Bs ((l.take i).drop j) := (h.take i).drop j
theorem mid_len (l : List Int) (i j : Nat) : ((l.take i).drop j).length ≤ i - j := by rw [List.length_drop, List.length_take]; omega
theorem isack_l (v : List Int) (hb : Bs v) (hv : v.length ≤ 1000) (d : Nat) : ∀ (k i : Nat) (s : List S60), s.length + d = 3 → d + 10 ≤ k → (v.length - i) % 8 = 0 → impl_DecodeSegment.sacks k (i : Int) s v = some (s ++ sgo d (v.drop i)) := by
  induction d with
  | zero =>
    intro k i s hs hk hm
    obtain ⟨k, rfl⟩ : ∃ m, k = m + 1 := ⟨k - 1, by omega⟩
    rw [impl_DecodeSegment.sacks, if_neg (show ¬ ((s.length : Int) < 3) by omega)]
    simp [sgo]
  | succ d ih =>
    intro k i s hs hk hm
    obtain ⟨k, rfl⟩ : ∃ m, k = m + 1 := ⟨k - 1, by omega⟩
    rw [impl_DecodeSegment.sacks, sgo]
    by_cases hi : (i : Int) < (v.length : Int)
    · have w4 : wrap64 ((i : Int) + 4) = ((i + 4 : Nat) : Int) := by rw [wr64 (by omega)]; omega
      have w8 : wrap64 ((i : Int) + 8) = ((i + 8 : Nat) : Int) := by rw [wr64 (by omega)]; omega
      have hl8 : i + 8 ≤ v.length := by omega
      rw [if_pos hi, if_pos (show (s.length : Int) < 3 by omega), w4, w8, if_pos (by omega), if_pos (by omega), if_pos (by omega), if_pos (by omega), if_neg (show ¬ (v.drop i).length = 0 by rw [List.length_drop]; omega)]
      simp only [Int.toNat_natCast]
      have m1 := mid_len v (i + 4) i
      have m2 := mid_len v (i + 8) (i + 4)
      rw [iget_f (hb.mid _ _) (by omega) (by omega), iget_f (hb.mid _ _) (by omega) (by omega), Option.bind_some, Option.bind_some, ih k (i + 8) _ (by simp; omega) (by omega) (by omega), cut4, cut8, List.append_assoc, List.drop_drop]
      rfl
    · rw [if_neg hi, if_pos (show (v.drop i).length = 0 by rw [List.length_drop]; omega)]
      simp
theorem ssack_l (o : List Int) (hb : Bs o) (hv : o.length ≤ 1000) (x0 x1 x2 x3 x4 x5 x6 : Int) (x7 : Bool) (x8 : Int) (x9 : Bool) (dl : List Int) (d : Nat) : ∀ (k i : Nat) (s : List S60), s.length + d = 3 → d + d + 10 ≤ k → (o.length - i) % 8 = 0 → spec_l11Option.l0 k o (i : Int) x0 x1 x2 x3 x4 x5 x6 x7 x8 x9 s dl = some (x0, x1, x2, x3, x4, x5, x6, x7, x8, x9, s ++ sgo d (o.drop i), true) := by
  induction d with
  | zero =>
    intro k i s hs hk hm
    obtain ⟨k, rfl⟩ : ∃ m, k = m + 1 + 1 := ⟨k - 2, by omega⟩
    rw [spec_l11Option.l0]
    have h3 : decide ((s.length : Int) < 3) = false := decide_eq_false (by omega)
    by_cases hi : (i : Int) < (o.length : Int)
    · rw [if_pos hi, h3, spec_l11Option.j2, if_neg (by decide)]
      simp [sgo]
    · rw [if_neg hi, spec_l11Option.j2, if_neg (by decide)]
      simp [sgo]
  | succ d ih =>
    intro k i s hs hk hm
    obtain ⟨k, rfl⟩ : ∃ m, k = m + 1 + 1 := ⟨k - 2, by omega⟩
    have h3 : decide ((s.length : Int) < 3) = true := decide_eq_true (by omega)
    rw [spec_l11Option.l0, sgo]
    by_cases hi : (i : Int) < (o.length : Int)
    · have w4 : wrap64 ((i : Int) + 4) = ((i + 4 : Nat) : Int) := by rw [wr64 (by omega)]; omega
      have w8 : wrap64 ((i : Int) + 8) = ((i + 8 : Nat) : Int) := by rw [wr64 (by omega)]; omega
      rw [if_pos hi, h3, spec_l11Option.j2, if_pos rfl, w4, w8, if_pos (by omega), if_pos (by omega), if_pos (by omega), if_neg (show ¬ (o.drop i).length = 0 by rw [List.length_drop]; omega)]
      simp only [Int.toNat_natCast]
      have m1 := mid_len o (i + 4) i
      have m2 := mid_len o (i + 8) (i + 4)
      rw [snum_f (hb.mid _ _) (by omega) (by omega), Option.bind_some, if_pos (by omega), if_pos (by omega), if_pos (by omega), snum_f (hb.mid _ _) (by omega) (by omega), Option.bind_some, if_pos (by omega), ih k (i + 8) _ (by simp; omega) (by omega) (by omega), cut4, cut8, List.append_assoc, List.drop_drop]
      rfl
    · rw [if_neg hi, spec_l11Option.j2, if_neg (by decide), if_pos (show (o.drop i).length = 0 by rw [List.length_drop]; omega)]
      simp
theorem rd_bs {l : List Int} (h : Bs l) (i : Int) : 0 ≤ rd l i ∧ rd l i ≤ 255 := by
  unfold rd
  rw [List.getD_eq_getElem?_getD]
  rcases hq : l[i.toNat]? with _ | x
  · simp
  · exact h x (List.mem_of_getElem? hq)
/-- an option: both take it as the same, or both refuse it -/
theorem opt_both (x0 x1 x2 x3 x4 x5 x6 : Int) (x7 : Bool) (x8 : Int) (x9 : Bool) (s : List S60) (dl : List Int) (hs : s.length ≤ 3) (o : List Int) (hb : Bs o) (h2 : 2 ≤ o.length) (hn : o.length ≤ 255) :
    (∃ y : XO, y.2.2.2.2.2.2.2.2.2.2.2 = true ∧ y.2.2.2.2.2.2.2.2.2.2.1.length ≤ 3 ∧ ∀ k, 40 ≤ k → spec_l11Option.f k x0 x1 x2 x3 x4 x5 x6 x7 x8 x9 s dl o = some y ∧ impl_DecodeSegment.opt k x0 x1 x2 x3 x4 x5 x6 x7 x8 x9 s (rd o 0) (o.drop 2) = some y) ∨
    (∃ y z : XO, y.2.2.2.2.2.2.2.2.2.2.2 = false ∧ z.2.2.2.2.2.2.2.2.2.2.2 = false ∧ ∀ k, 40 ≤ k → spec_l11Option.f k x0 x1 x2 x3 x4 x5 x6 x7 x8 x9 s dl o = some y ∧ impl_DecodeSegment.opt k x0 x1 x2 x3 x4 x5 x6 x7 x8 x9 s (rd o 0) (o.drop 2) = some z) := by
  have hl : ((o.drop 2).length : Int) = (o.length : Int) - 2 := by rw [List.length_drop]; omega
  have hl2 : (o.drop 2).length = o.length - 2 := List.length_drop ..
  by_cases c2 : rd o 0 = 2
  · by_cases h : (o.length : Int) = 4
    · refine .inl ⟨(x0, x1, x2, x3, x4, x5, numa 0 (o.drop 2), x7, x8, x9, s, true), rfl, hs, fun k hk => ?_⟩
      unfold spec_l11Option.f impl_DecodeSegment.opt
      rw [if_pos (by omega), if_pos c2, if_pos h, if_pos (by omega), if_pos c2, if_pos (by omega), snum_f (hb.drop 2) (by omega) (by omega), iget_f (hb.drop 2) (by omega) (by omega)]
      exact ⟨rfl, rfl⟩
    · refine .inr ⟨(x0, x1, x2, x3, x4, x5, x6, x7, x8, x9, s, false), (x0, x1, x2, x3, x4, x5, x6, x7, x8, x9, s, false), rfl, rfl, fun k hk => ?_⟩
      unfold spec_l11Option.f impl_DecodeSegment.opt
      rw [if_pos (by omega), if_pos c2, if_neg h, if_pos c2, if_neg (by omega)]
      exact ⟨rfl, rfl⟩
  by_cases c3 : rd o 0 = 3
  · by_cases h : (o.length : Int) = 3
    · have hr := rd_bs hb 2
      have hv : rd (o.drop 2) 0 = rd o 2 := by
        unfold rd
        rw [List.getD_eq_getElem?_getD, List.getD_eq_getElem?_getD, List.getElem?_drop]
        rfl
      refine .inl ⟨(x0, x1, x2, x3, x4, x5, x6, true, mn (rd o 2) 14, x9, s, true), rfl, hs, fun k hk => ?_⟩
      unfold spec_l11Option.f impl_DecodeSegment.opt
      rw [if_pos (by omega), if_neg c2, if_pos c3, if_pos h, if_pos (by omega), if_neg c2, if_pos c3, if_pos (show ((o.drop 2).length : Int) = 1 by omega), hv, wr64 (a := rd o 2) (by omega)]
      refine ⟨?_, rfl⟩
      unfold mn
      by_cases hg : rd o 2 > 14
      · rw [if_pos hg, if_pos hg]
      · rw [if_neg hg, if_neg hg]
    · refine .inr ⟨(x0, x1, x2, x3, x4, x5, x6, x7, x8, x9, s, false), (x0, x1, x2, x3, x4, x5, x6, x7, x8, x9, s, false), rfl, rfl, fun k hk => ?_⟩
      unfold spec_l11Option.f impl_DecodeSegment.opt
      rw [if_pos (by omega), if_neg c2, if_pos c3, if_neg h, if_neg c2, if_pos c3, if_neg (by omega)]
      exact ⟨rfl, rfl⟩
  by_cases c4 : rd o 0 = 4
  · by_cases h : (o.length : Int) = 2
    · refine .inl ⟨(x0, x1, x2, x3, x4, x5, x6, x7, x8, true, s, true), rfl, hs, fun k hk => ?_⟩
      unfold spec_l11Option.f impl_DecodeSegment.opt
      rw [if_pos (by omega), if_neg c2, if_neg c3, if_pos c4, if_pos h, if_neg c2, if_neg c3, if_pos c4, if_pos (by omega)]
      exact ⟨rfl, rfl⟩
    · refine .inr ⟨(x0, x1, x2, x3, x4, x5, x6, x7, x8, x9, s, false), (x0, x1, x2, x3, x4, x5, x6, x7, x8, true, s, false), rfl, rfl, fun k hk => ?_⟩
      unfold spec_l11Option.f impl_DecodeSegment.opt
      rw [if_pos (by omega), if_neg c2, if_neg c3, if_pos c4, if_neg h, if_neg c2, if_neg c3, if_pos c4, if_neg (by omega)]
      exact ⟨rfl, rfl⟩
  by_cases c5 : rd o 0 = 5
  · by_cases h : 10 ≤ (o.length : Int) ∧ (o.length : Int) ≤ 34 ∧ (o.length : Int) % 8 = 2
    · obtain ⟨ha, hb2, hc⟩ := h
      have hm : (((o.length : Int) % 8) != 2) = false := by rw [hc]; rfl
      refine .inl ⟨(x0, x1, x2, x3, x4, x5, x6, x7, x8, x9, sgo 3 (o.drop 2), true), rfl, sgo_len 3 _, fun k hk => ?_⟩
      unfold spec_l11Option.f impl_DecodeSegment.opt
      rw [if_pos (by omega), if_neg c2, if_neg c3, if_neg c4, if_pos c5, if_neg (by omega), if_neg (by omega), hm, if_neg c2, if_neg c3, if_neg c4, if_pos c5, if_pos (by omega), if_pos (by omega), if_pos (by omega)]
      obtain ⟨k, rfl⟩ : ∃ m, k = m + 1 := ⟨k - 1, by omega⟩
      have e1 := ssack_l o hb (by omega) x0 x1 x2 x3 x4 x5 x6 x7 x8 x9 dl 3 k 2 [] rfl (by omega) (by omega)
      have e2 := isack_l (o.drop 2) (hb.drop 2) (by omega) 3 (k + 1) 0 [] rfl (by omega) (by omega)
      rw [show ((2 : Nat) : Int) = 2 from rfl] at e1
      rw [show ((0 : Nat) : Int) = 0 from rfl] at e2
      rw [spec_l11Option.j0, if_neg (by decide), e1, e2]
      exact ⟨rfl, rfl⟩
    · have hq : (∃ b : Bool, b = true ∧ ∀ k, spec_l11Option.f k x0 x1 x2 x3 x4 x5 x6 x7 x8 x9 s dl o = spec_l11Option.j0 k o b x0 x1 x2 x3 x4 x5 x6 x7 x8 x9 s dl) := by
        by_cases ha : (o.length : Int) < 10
        · refine ⟨true, rfl, fun k => ?_⟩
          unfold spec_l11Option.f
          rw [if_pos (by omega), if_neg c2, if_neg c3, if_neg c4, if_pos c5, if_pos ha]
        · by_cases hb2 : (o.length : Int) > 34
          · refine ⟨true, rfl, fun k => ?_⟩
            unfold spec_l11Option.f
            rw [if_pos (by omega), if_neg c2, if_neg c3, if_neg c4, if_pos c5, if_neg ha, if_pos hb2]
          · refine ⟨((o.length : Int) % 8) != 2, ?_, fun k => ?_⟩
            · rw [bne_iff_ne]
              omega
            · unfold spec_l11Option.f
              rw [if_pos (by omega), if_neg c2, if_neg c3, if_neg c4, if_pos c5, if_neg ha, if_neg hb2]
      obtain ⟨b, rfl, hq⟩ := hq
      refine .inr ⟨(x0, x1, x2, x3, x4, x5, x6, x7, x8, x9, s, false), (x0, x1, x2, x3, x4, x5, x6, x7, x8, x9, s, false), rfl, rfl, fun k hk => ⟨?_, ?_⟩⟩
      · obtain ⟨k, rfl⟩ : ∃ m, k = m + 1 := ⟨k - 1, by omega⟩
        rw [hq, spec_l11Option.j0, if_pos rfl]
      · unfold impl_DecodeSegment.opt
        rw [if_neg c2, if_neg c3, if_neg c4, if_pos c5]
        by_cases p1 : 0 < ((o.drop 2).length : Int)
        · rw [if_pos p1]
          by_cases p2 : ((o.drop 2).length : Int) % 8 = 0
          · rw [if_pos p2, if_neg (by omega)]
          · rw [if_neg p2]
        · rw [if_neg p1]
  refine .inl ⟨(x0, x1, x2, x3, x4, x5, x6, x7, x8, x9, s, true), rfl, hs, fun k hk => ?_⟩
  unfold spec_l11Option.f impl_DecodeSegment.opt
  rw [if_pos (by omega), if_neg c2, if_neg c3, if_neg c4, if_neg c5, if_neg c2, if_neg c3, if_neg c4, if_neg c5]
  exact ⟨rfl, rfl⟩
theorem rd_take {l : List Int} {n : Nat} (h : 0 < n) : rd (l.take n) 0 = rd l 0 := by
  unfold rd
  rw [List.getD_eq_getElem?_getD, List.getD_eq_getElem?_getD, List.getElem?_take, if_pos (by simpa using h)]
theorem opts_both (dl : List Int) (n : Nat) : ∀ (b : List Int), b.length ≤ n → Bs b → ∀ (x0 x1 x2 x3 x4 x5 x6 : Int) (x7 : Bool) (x8 : Int) (x9 : Bool) (s : List S60), s.length ≤ 3 →
    ∃ y : XO, y.2.2.2.2.2.2.2.2.2.2.1.length ≤ 3 ∧ ∀ k, b.length + 50 ≤ k → spec_l11ReadOptions.l0 k x0 x1 x2 x3 x4 x5 x6 x7 x8 x9 s dl b = some y ∧ impl_DecodeSegment.l0 k x0 x1 x2 x3 x4 x5 x6 x7 x8 x9 s b = some y := by
  induction n with
  | zero =>
    intro b hn hb x0 x1 x2 x3 x4 x5 x6 x7 x8 x9 s hs
    refine ⟨(x0, x1, x2, x3, x4, x5, x6, x7, x8, x9, s, true), hs, fun k hk => ?_⟩
    obtain ⟨k, rfl⟩ : ∃ m, k = m + 1 := ⟨k - 1, by omega⟩
    rw [spec_l11ReadOptions.l0, impl_DecodeSegment.l0, if_neg (by omega), if_neg (by omega)]
    exact ⟨rfl, rfl⟩
  | succ n ih =>
    intro b hn hb x0 x1 x2 x3 x4 x5 x6 x7 x8 x9 s hs
    by_cases c0 : 0 < (b.length : Int)
    · by_cases c1 : rd b 0 = 0
      · refine ⟨(x0, x1, x2, x3, x4, x5, x6, x7, x8, x9, s, true), hs, fun k hk => ?_⟩
        obtain ⟨k, rfl⟩ : ∃ m, k = m + 1 := ⟨k - 1, by omega⟩
        rw [spec_l11ReadOptions.l0, impl_DecodeSegment.l0, if_pos c0, if_pos c0, if_pos c1, if_pos c1]
        exact ⟨rfl, rfl⟩
      by_cases c2 : rd b 0 = 1
      · obtain ⟨y, hy, hk2⟩ := ih (b.drop 1) (by rw [List.length_drop]; omega) (hb.drop 1) x0 x1 x2 x3 x4 x5 x6 x7 x8 x9 s hs
        refine ⟨y, hy, fun k hk => ?_⟩
        obtain ⟨k, rfl⟩ : ∃ m, k = m + 1 := ⟨k - 1, by omega⟩
        rw [spec_l11ReadOptions.l0, impl_DecodeSegment.l0, if_pos c0, if_pos c0, if_neg c1, if_neg c1, if_pos c2, if_pos c2]
        exact hk2 k (by rw [List.length_drop]; omega)
      have bad : ∀ k, 1 ≤ k → ((b.length : Int) < 2 ∨ rd b 1 < 2 ∨ (b.length : Int) < rd b 1) → spec_l11ReadOptions.l0 k x0 x1 x2 x3 x4 x5 x6 x7 x8 x9 s dl b = some (x0, x1, x2, x3, x4, x5, x6, x7, x8, x9, s, false) ∧ impl_DecodeSegment.l0 k x0 x1 x2 x3 x4 x5 x6 x7 x8 x9 s b = some (x0, x1, x2, x3, x4, x5, x6, x7, x8, x9, s, false) := by
        intro k hk hq
        obtain ⟨k, rfl⟩ : ∃ m, k = m + 1 := ⟨k - 1, by omega⟩
        have hw := rd_bs hb 1
        rw [spec_l11ReadOptions.l0, impl_DecodeSegment.l0, if_pos c0, if_pos c0, if_neg c1, if_neg c1, if_neg c2, if_neg c2, wr64 (a := rd b 1) (by omega)]
        by_cases q1 : (b.length : Int) < 2
        · rw [if_pos q1, if_pos q1]; exact ⟨rfl, rfl⟩
        by_cases q2 : rd b 1 < 2
        · rw [if_neg q1, if_neg q1, if_pos q2, if_pos q2]; exact ⟨rfl, rfl⟩
        rw [if_neg q1, if_neg q1, if_neg q2, if_neg q2, if_pos (by omega), if_pos (by omega)]
        exact ⟨rfl, rfl⟩
      by_cases hq : (b.length : Int) < 2 ∨ rd b 1 < 2 ∨ (b.length : Int) < rd b 1
      · exact ⟨(x0, x1, x2, x3, x4, x5, x6, x7, x8, x9, s, false), hs, fun k hk => bad k (by omega) hq⟩
      have hw := rd_bs hb 1
      have g1 : ¬ (b.length : Int) < 2 := fun h => hq (.inl h)
      have g2 : ¬ rd b 1 < 2 := fun h => hq (.inr (.inl h))
      have g3 : ¬ (b.length : Int) < rd b 1 := fun h => hq (.inr (.inr h))
      obtain ⟨m, hm⟩ : ∃ m : Nat, rd b 1 = (m : Int) := ⟨(rd b 1).toNat, by omega⟩
      have hlt : (b.take m).length = m := by rw [List.length_take]; omega
      have hc : rd (b.take m) 0 = rd b 0 := rd_take (by omega)
      have go : ∀ k, spec_l11ReadOptions.l0 (k + 1) x0 x1 x2 x3 x4 x5 x6 x7 x8 x9 s dl b = (spec_l11Option.f k x0 x1 x2 x3 x4 x5 x6 x7 x8 x9 s dl (b.take m)).bind (fun t => if t.2.2.2.2.2.2.2.2.2.2.2 = true then spec_l11ReadOptions.l0 k t.1 t.2.1 t.2.2.1 t.2.2.2.1 t.2.2.2.2.1 t.2.2.2.2.2.1 t.2.2.2.2.2.2.1 t.2.2.2.2.2.2.2.1 t.2.2.2.2.2.2.2.2.1 t.2.2.2.2.2.2.2.2.2.1 t.2.2.2.2.2.2.2.2.2.2.1 dl (b.drop m) else some (x0, x1, x2, x3, x4, x5, x6, x7, x8, x9, s, false)) ∧
          impl_DecodeSegment.l0 (k + 1) x0 x1 x2 x3 x4 x5 x6 x7 x8 x9 s b = (impl_DecodeSegment.opt k x0 x1 x2 x3 x4 x5 x6 x7 x8 x9 s (rd b 0) ((b.take m).drop 2)).bind (fun t => if t.2.2.2.2.2.2.2.2.2.2.2 = true then impl_DecodeSegment.l0 k t.1 t.2.1 t.2.2.1 t.2.2.2.1 t.2.2.2.2.1 t.2.2.2.2.2.1 t.2.2.2.2.2.2.1 t.2.2.2.2.2.2.2.1 t.2.2.2.2.2.2.2.2.1 t.2.2.2.2.2.2.2.2.2.1 t.2.2.2.2.2.2.2.2.2.2.1 (b.drop m) else some (x0, x1, x2, x3, x4, x5, x6, x7, x8, x9, s, false)) := by
        intro k
        rw [spec_l11ReadOptions.l0, impl_DecodeSegment.l0, if_pos c0, if_pos c0, if_neg c1, if_neg c1, if_neg c2, if_neg c2, if_neg g1, if_neg g1, if_neg g2, if_neg g2, wr64 (a := rd b 1) (by omega), if_neg g3, if_neg g3, if_pos (by omega), if_pos (by omega), hm, Int.toNat_natCast]
        exact ⟨rfl, rfl⟩
      rcases opt_both x0 x1 x2 x3 x4 x5 x6 x7 x8 x9 s dl hs (b.take m) (hb.take m) (by omega) (by omega) with ⟨y, hy, hyl, he⟩ | ⟨y, z, hy, hz, he⟩
      · obtain ⟨r, hr, hk2⟩ := ih (b.drop m) (by rw [List.length_drop]; omega) (hb.drop m) y.1 y.2.1 y.2.2.1 y.2.2.2.1 y.2.2.2.2.1 y.2.2.2.2.2.1 y.2.2.2.2.2.2.1 y.2.2.2.2.2.2.2.1 y.2.2.2.2.2.2.2.2.1 y.2.2.2.2.2.2.2.2.2.1 y.2.2.2.2.2.2.2.2.2.2.1 hyl
        refine ⟨r, hr, fun k hk => ?_⟩
        obtain ⟨k, rfl⟩ : ∃ m, k = m + 1 := ⟨k - 1, by omega⟩
        have h2 := hk2 k (by rw [List.length_drop]; omega)
        have h3 := he k (by omega)
        rw [hc] at h3
        rw [(go k).1, (go k).2, h3.1, h3.2, Option.bind_some, Option.bind_some, if_pos hy, if_pos hy]
        exact h2
      · refine ⟨(x0, x1, x2, x3, x4, x5, x6, x7, x8, x9, s, false), hs, fun k hk => ?_⟩
        obtain ⟨k, rfl⟩ : ∃ m, k = m + 1 := ⟨k - 1, by omega⟩
        have h3 := he k (by omega)
        rw [hc] at h3
        rw [(go k).1, (go k).2, h3.1, h3.2, Option.bind_some, Option.bind_some, if_neg (by rw [hy]; decide), if_neg (by rw [hz]; decide)]
        exact ⟨rfl, rfl⟩
    · refine ⟨(x0, x1, x2, x3, x4, x5, x6, x7, x8, x9, s, true), hs, fun k hk => ?_⟩
      obtain ⟨k, rfl⟩ : ∃ m, k = m + 1 := ⟨k - 1, by omega⟩
      rw [spec_l11ReadOptions.l0, impl_DecodeSegment.l0, if_neg c0, if_neg c0]
      exact ⟨rfl, rfl⟩
theorem zres (c : Int) : ((0, 0, 0, 0, 0, 0, 0, false, 0, false, [], [], c) : XD).2.2.2.2.2.2.2.2.2.2.1.length ≤ 3 ∧ ((0, 0, 0, 0, 0, 0, 0, false, 0, false, [], [], c) : XD).2.2.2.2.2.2.2.2.2.2.2.1.length ≤ 65535 := ⟨Nat.zero_le _, Nat.zero_le _⟩
theorem seg_t (b : List Int) (hb : Bs b) (hn : b.length ≤ 65515) (h20 : 20 ≤ b.length) (n : Int) (h0 : 20 ≤ n) (h1 : n ≤ (b.length : Int)) : ∃ y : XD, (y.2.2.2.2.2.2.2.2.2.2.1.length ≤ 3 ∧ y.2.2.2.2.2.2.2.2.2.2.2.1.length ≤ 65535) ∧ ∀ k, b.length + 60 ≤ k → spec_DecodeSegment.t k b n = some y ∧ impl_DecodeSegment.t k b n = some y := by
  have m1 := mid_len b 4 2
  have m2 := mid_len b 8 4
  have m3 := mid_len b 12 8
  have m4 := mid_len b 16 14
  have m0 : (b.take 2).length ≤ 2 := by rw [List.length_take]; omega
  have md : (b.drop n.toNat).length ≤ b.length := by rw [List.length_drop]; omega
  obtain ⟨y, hy, he⟩ := opts_both (b.drop n.toNat) b.length ((b.take n.toNat).drop 20) (by rw [List.length_drop, List.length_take]; omega) (hb.mid _ _) (numa 0 (b.take 2)) (numa 0 ((b.take 4).drop 2)) (numa 0 ((b.take 8).drop 4)) (numa 0 ((b.take 12).drop 8)) (wrap64 (Go.bits .and .u8 (rd b 13) 63)) (numa 0 ((b.take 16).drop 14)) 0 false 0 false [] (Nat.zero_le _)
  have hlo : ((b.take n.toNat).drop 20).length ≤ b.length := by rw [List.length_drop, List.length_take]; omega
  have hr : spec_DecodeSegment.r (b.drop n.toNat) y = impl_DecodeSegment.r (b.drop n.toNat) y := rfl
  obtain ⟨z, hz, hzl⟩ : ∃ z : XD, impl_DecodeSegment.r (b.drop n.toNat) y = some z ∧ (z.2.2.2.2.2.2.2.2.2.2.1.length ≤ 3 ∧ z.2.2.2.2.2.2.2.2.2.2.2.1.length ≤ 65535) := by
    unfold impl_DecodeSegment.r
    by_cases ho : y.2.2.2.2.2.2.2.2.2.2.2 = true
    · rw [if_pos ho]
      exact ⟨_, rfl, hy, Nat.le_trans md (by omega)⟩
    · rw [if_neg ho]
      exact ⟨_, rfl, zres 10⟩
  refine ⟨z, hzl, fun k hk => ?_⟩
  have h3 := he k (by omega)
  unfold spec_DecodeSegment.t impl_DecodeSegment.t
  rw [snum_f (hb.take 2) (by omega) (by omega), iget_f (hb.take 2) (by omega) (by omega)]
  simp only [Option.bind_some]
  rw [snum_f (hb.mid _ _) (by omega) (by omega), iget_f (hb.mid _ _) (by omega) (by omega)]
  simp only [Option.bind_some]
  rw [snum_f (hb.mid _ _) (by omega) (by omega), iget_f (hb.mid _ _) (by omega) (by omega)]
  simp only [Option.bind_some]
  rw [snum_f (hb.mid _ _) (by omega) (by omega), iget_f (hb.mid _ _) (by omega) (by omega)]
  simp only [Option.bind_some]
  rw [snum_f (hb.mid _ _) (by omega) (by omega), iget_f (hb.mid _ _) (by omega) (by omega)]
  simp only [Option.bind_some]
  rw [copy_f (by omega) (by omega), dup_f (by omega)]
  simp only [Option.bind_some]
  unfold spec_l11ReadOptions.f
  rw [h3.1, h3.2, Option.bind_some, Option.bind_some, hr, hz]
  exact ⟨rfl, rfl⟩
theorem seg_same {b : List Int} (hb : Bs b) (hn : b.length ≤ 1048576) (s d : Int) : ∃ y : XD, (y.2.2.2.2.2.2.2.2.2.2.1.length ≤ 3 ∧ y.2.2.2.2.2.2.2.2.2.2.2.1.length ≤ 65535) ∧ ∀ k, b.length + 100 ≤ k → spec_DecodeSegment.f k b s d = some y ∧ impl_DecodeSegment.f k b s d = some y := by
  by_cases hs : 0 ≤ s ∧ s ≤ 4294967295
  · by_cases hd : 0 ≤ d ∧ d ≤ 4294967295
    · have start : ∀ k, spec_DecodeSegment.f k b s d = spec_DecodeSegment.g k b s d ∧ impl_DecodeSegment.f k b s d = impl_DecodeSegment.g k b s d := by
        intro k
        unfold spec_DecodeSegment.f impl_DecodeSegment.f
        simp only [addrOK_f, isAddr_f, Option.bind_some]
        simp [hs, hd]
      by_cases c1 : (b.length : Int) < 20
      · refine ⟨_, zres 2, fun k hk => ?_⟩
        rw [(start k).1, (start k).2]
        unfold spec_DecodeSegment.g impl_DecodeSegment.g
        rw [if_pos c1, if_pos c1]
        exact ⟨rfl, rfl⟩
      by_cases c2 : 65515 < (b.length : Int)
      · refine ⟨_, zres 7, fun k hk => ?_⟩
        rw [(start k).1, (start k).2]
        unfold spec_DecodeSegment.g impl_DecodeSegment.g
        rw [if_neg c1, if_neg c1, if_pos c2, if_pos c2]
        exact ⟨rfl, rfl⟩
      have step : ∀ k, spec_DecodeSegment.f k b s d = spec_DecodeSegment.s k b s d (wrap64 ((wrap64 ((rd b 12) / 16)) * 4)) ∧ impl_DecodeSegment.f k b s d = impl_DecodeSegment.s k b s d (wrap64 ((wrap64 ((rd b 12) / 16)) * 4)) := by
        intro k
        rw [(start k).1, (start k).2]
        unfold spec_DecodeSegment.g impl_DecodeSegment.g
        rw [if_neg c1, if_neg c1, if_neg c2, if_neg c2]
        exact ⟨rfl, rfl⟩
      obtain ⟨n, hnn⟩ : ∃ n, n = wrap64 ((wrap64 ((rd b 12) / 16)) * 4) := ⟨_, rfl⟩
      rw [← hnn] at step
      by_cases c3 : n < 20
      · refine ⟨_, zres 5, fun k hk => ?_⟩
        rw [(step k).1, (step k).2]
        unfold spec_DecodeSegment.s impl_DecodeSegment.s
        rw [if_pos c3, if_pos c3]
        exact ⟨rfl, rfl⟩
      by_cases c4 : (b.length : Int) < n
      · refine ⟨_, zres 5, fun k hk => ?_⟩
        rw [(step k).1, (step k).2]
        unfold spec_DecodeSegment.s impl_DecodeSegment.s
        rw [if_neg c3, if_neg c3, if_pos c4, if_pos c4]
        exact ⟨rfl, rfl⟩
      have hfl := fhead_len s d 6 (b.length : Int)
      have hsum : ∀ k, b.length + 100 ≤ k → spec_DecodeSegment.f k b s d = (if csum (fhead s d 6 (b.length : Int) ++ b) = 0 then spec_DecodeSegment.t k b n else some (0, 0, 0, 0, 0, 0, 0, false, 0, false, [], [], 3)) ∧ impl_DecodeSegment.f k b s d = (if csum (fhead s d 6 (b.length : Int) ++ b) = 0 then impl_DecodeSegment.t k b n else some (0, 0, 0, 0, 0, 0, 0, false, 0, false, [], [], 3)) := by
        intro k hk
        rw [(step k).1, (step k).2]
        unfold spec_DecodeSegment.s impl_DecodeSegment.s
        rw [if_neg c3, if_neg c3, if_neg c4, if_neg c4, l10_f hb (by omega) _ _ _ (by omega), ifh_f _ _ _ _ (by omega)]
        simp only [Option.bind_some]
        rw [if_pos (show (fhead s d 6 (b.length : Int)).length + b.length < 140737488355328 by omega), icheck_f ((fhead_bytes _ _ _ _).append hb) (by simp; omega) (by simp; omega)]
        first | exact ⟨rfl, rfl⟩ | exact ⟨trivial, rfl⟩
      by_cases c5 : csum (fhead s d 6 (b.length : Int) ++ b) = 0
      · obtain ⟨y, hy, he⟩ := seg_t b hb (by omega) (by omega) n (by omega) (by omega)
        refine ⟨y, hy, fun k hk => ?_⟩
        rw [(hsum k hk).1, (hsum k hk).2, if_pos c5, if_pos c5]
        exact he k (by omega)
      · refine ⟨_, zres 3, fun k hk => ?_⟩
        rw [(hsum k hk).1, (hsum k hk).2, if_neg c5, if_neg c5]
        exact ⟨rfl, rfl⟩
    · refine ⟨_, zres 1, fun k hk => ?_⟩
      unfold spec_DecodeSegment.f impl_DecodeSegment.f
      simp only [addrOK_f, isAddr_f, Option.bind_some]
      simp [hs, hd]
  · refine ⟨_, zres 1, fun k hk => ?_⟩
    unfold spec_DecodeSegment.f impl_DecodeSegment.f
    simp only [addrOK_f, isAddr_f, Option.bind_some]
    simp [hs]
theorem eqSeg_same (a0 a1 a2 a3 a4 a5 a6 : Int) (b7 : Bool) (a8 : Int) (b9 : Bool) (s : List S60) (p : List Int) {k : Nat} (h : s.length + p.length ≤ 1048576) (hk : s.length + p.length < k) : laws_eqSegment.f k a0 a1 a2 a3 a4 a5 a6 b7 a8 b9 s p a0 a1 a2 a3 a4 a5 a6 b7 a8 b9 s p = some true := by
  unfold laws_eqSegment.f
  rw [eqS_same (by omega) (by omega), eqB_f (by omega) (by omega)]
  simp
/-- the stretches that marking leaves -/
def mkT (a : Int) : Nat → List S60
  | 0 => []
  | n + 1 => (⟨a, a + 1⟩ : S60) :: mkT (a + 2) n
theorem mkT_len (n : Nat) : ∀ a, (mkT a n).length = n := by
  induction n with
  | zero => intro a; rfl
  | succ n ih => intro a; simp [mkT, ih]
theorem rdT_at {x : List S60} {i : Nat} {v : S60} (h : x[i]? = some v) : rd_T60 x (i : Int) = v := by
  unfold rd_T60
  rw [Int.toNat_natCast, List.getD_eq_getElem?_getD, h]
  rfl
theorem markT_l (d : Nat) : ∀ (k : Nat) (u x : List S60) (a : Int), x.length = d → u.length + d ≤ 1048576 → d < k → 0 ≤ a → a + 2 * (d : Int) ≤ 1099511627776 → laws_markStretchS.l0 k (u ++ x) a (u.length : Int) = some (a + 2 * (d : Int), u ++ mkT a d) := by
  induction d with
  | zero =>
    intro k u x a hx hn hk h0 h1
    obtain ⟨k, rfl⟩ : ∃ m, k = m + 1 := ⟨k - 1, by omega⟩
    obtain rfl := List.eq_nil_of_length_eq_zero hx
    rw [laws_markStretchS.l0, if_neg (by simp)]
    simp [mkT]
  | succ d ih =>
    intro k u x a hx hn hk h0 h1
    obtain ⟨k, rfl⟩ : ∃ m, k = m + 1 := ⟨k - 1, by omega⟩
    obtain ⟨z, x, rfl⟩ : ∃ z t, x = z :: t := by
      cases x with
      | nil => simp at hx
      | cons z t => exact ⟨z, t, rfl⟩
    have hxl : x.length = d := by simpa using hx
    have e1 : ∀ v : S60, (u ++ z :: x).set u.length v = u ++ v :: x := fun v => by simp [List.set_append]
    have e2 : ∀ v v2 : S60, (u ++ v :: x).set u.length v2 = u ++ v2 :: x := fun v v2 => by simp [List.set_append]
    rw [laws_markStretchS.l0, if_pos (by simp; omega), if_pos (by omega), Option.bind_some, wr64 (a := a + 1) (by omega), wr64 (a := a + 1 + 1) (by omega), wr_succ (n := u.length + d + 1) (by omega) (by omega), Int.toNat_natCast, e1, e2, rdT_at (v := (⟨a, (rd_T60 (u ++ z :: x) (u.length : Int)).f1⟩ : S60)) (by simp)]
    have h2 := ih k (u ++ [(⟨a, a + 1⟩ : S60)]) x (a + 1 + 1) hxl (by simp; omega) (by omega) (by omega) (by omega)
    rw [show (u ++ [(⟨a, a + 1⟩ : S60)]) ++ x = u ++ (⟨a, a + 1⟩ : S60) :: x from by simp, show ((u ++ [(⟨a, a + 1⟩ : S60)]).length : Int) = ((u.length + 1 : Nat) : Int) from by simp] at h2
    rw [h2, show a + 1 + 1 + 2 * (d : Int) = a + 2 * ((d + 1 : Nat) : Int) from by omega, show a + 1 + 1 = a + 2 from by omega]
    simp [mkT]
theorem heldT_l (d : Nat) : ∀ (k : Nat) (u : List S60) (a : Int), u.length + d ≤ 1048576 → d < k → 0 ≤ a → a + 2 * (d : Int) ≤ 1099511627776 → laws_heldStretchS.l0 k (u ++ mkT a d) a (u.length : Int) = some (a + 2 * (d : Int)) := by
  induction d with
  | zero =>
    intro k u a hn hk h0 h1
    obtain ⟨k, rfl⟩ : ∃ m, k = m + 1 := ⟨k - 1, by omega⟩
    rw [laws_heldStretchS.l0, if_neg (by simp [mkT])]
    simp
  | succ d ih =>
    intro k u a hn hk h0 h1
    obtain ⟨k, rfl⟩ : ∃ m, k = m + 1 := ⟨k - 1, by omega⟩
    have hl := mkT_len d (a + 2)
    rw [mkT, laws_heldStretchS.l0, if_pos (by simp; omega), if_pos (by omega), rdT_at (v := (⟨a, a + 1⟩ : S60)) (by simp), if_pos rfl, wr64 (a := a + 1) (by omega), if_pos rfl, wr64 (a := a + 1 + 1) (by omega), wr_succ (n := u.length + d + 1) (by omega) (by omega)]
    have h2 := ih k (u ++ [(⟨a, a + 1⟩ : S60)]) (a + 1 + 1) (by simp; omega) (by omega) (by omega) (by omega)
    rw [show a + 1 + 1 = a + 2 from by omega, show (u ++ [(⟨a, a + 1⟩ : S60)]) ++ mkT (a + 2) d = u ++ (⟨a, a + 1⟩ : S60) :: mkT (a + 2) d from by simp, show ((u ++ [(⟨a, a + 1⟩ : S60)]).length : Int) = ((u.length + 1 : Nat) : Int) from by simp] at h2
    rw [show a + 1 + 1 = a + 2 from by omega, h2, show a + 2 + 2 * (d : Int) = a + 2 * ((d + 1 : Nat) : Int) from by omega]
theorem markSeg_f (a0 a1 a2 a3 a4 a5 a6 : Int) (b7 : Bool) (a8 : Int) (b9 : Bool) {s : List S60} {p : List Int} (h : s.length + p.length ≤ 1048576) {k : Nat} (hk : s.length + p.length < k) : laws_markSegment.f k a0 a1 a2 a3 a4 a5 a6 b7 a8 b9 s p 1 = some (1 + 2 * (s.length : Int) + (p.length : Int), mkT 1 s.length, mks (1 + 2 * (s.length : Int)) p.length) := by
  unfold laws_markSegment.f laws_markStretchS.f
  have h2 := markT_l s.length k [] s 1 rfl (by simp; omega) (by omega) (by omega) (by omega)
  rw [show (([] : List S60).length : Int) = 0 from rfl, List.nil_append, List.nil_append] at h2
  rw [h2, Option.bind_some, markB_f (by omega) (by omega) (by omega)]
  rfl
theorem heldSeg_f (a0 a1 a2 a3 a4 a5 a6 : Int) (b7 : Bool) (a8 : Int) (b9 : Bool) {n m : Nat} (h : n + m ≤ 1048576) {k : Nat} (hk : n + m < k) : laws_heldSegment.f k a0 a1 a2 a3 a4 a5 a6 b7 a8 b9 (mkT 1 n) (mks (1 + 2 * (n : Int)) m) 1 = some (1 + 2 * (n : Int) + (m : Int)) := by
  unfold laws_heldSegment.f laws_heldStretchS.f
  have h2 := heldT_l n k [] 1 (by simp; omega) (by omega) (by omega) (by omega)
  rw [show (([] : List S60).length : Int) = 0 from rfl, List.nil_append] at h2
  rw [h2, Option.bind_some, if_neg (by omega), heldB_f (by omega) (by omega) (by omega), Option.bind_some, if_neg (by omega)]
theorem FnExactDecodeSegment : laws_FnExactDecodeSegment.Pure := by
  intro l a1 a2 hm hn hw w1 w2
  by_cases hg : (l.length : Int) > 1048576
  · refine ⟨0, ?_⟩
    unfold laws_FnExactDecodeSegment.f
    rw [if_pos hg]
  have hb := Bs.of hw
  obtain ⟨⟨y0, y1, y2, y3, y4, y5, y6, y7, y8, y9, s, p, c⟩, hl, he⟩ := seg_same hb (by omega) a1 a2
  simp only at hl
  obtain ⟨k, hk⟩ : ∃ k, k = l.length + 70000 := ⟨_, rfl⟩
  have hx : ¬ ((1 : Int) + (l.length : Int) < 0) := by omega
  have hy : ¬ ((1 : Int) + 2 * (s.length : Int) + (p.length : Int) < 0) := by omega
  have hcc : (c != c) = false := by simp
  refine ⟨k + 1 + 1 + 1, ?_⟩
  unfold laws_FnExactDecodeSegment.f
  rw [if_neg hg, toB_f (by omega) (by omega), Option.bind_some, (he _ (by omega)).1, Option.bind_some, Option.bind_some, (he _ (by omega)).2, Option.bind_some]
  dsimp only
  rw [eqSeg_same _ _ _ _ _ _ _ _ _ _ _ _ (by omega) (by omega), Option.bind_some, if_pos rfl, hcc, laws_FnExactDecodeSegment.j0, if_neg (by decide), toB_f (by omega) (by omega), Option.bind_some, eqB_f (by omega) (by omega), decide_eq_true rfl, Option.bind_some, if_pos rfl, markB_f (by omega) (by omega) (by omega), Option.bind_some]
  dsimp only
  rw [if_neg hx, eqSeg_same _ _ _ _ _ _ _ _ _ _ _ _ (by omega) (by omega), Option.bind_some, if_pos rfl, hcc, laws_FnExactDecodeSegment.j1, if_neg (by decide), markSeg_f _ _ _ _ _ _ _ _ _ _ (by omega) (by omega), Option.bind_some]
  dsimp only
  rw [heldSeg_f _ _ _ _ _ _ _ _ _ _ (by omega) (by omega), Option.bind_some, if_neg hy, if_pos rfl, toB_f (by omega) (by omega), Option.bind_some, (he _ (by omega)).2, Option.bind_some]
  dsimp only
  rw [eqSeg_same _ _ _ _ _ _ _ _ _ _ _ _ (by omega) (by omega), Option.bind_some, if_pos rfl, hcc, laws_FnExactDecodeSegment.j2, if_neg (by decide), heldSeg_f _ _ _ _ _ _ _ _ _ _ (by omega) (by omega), Option.bind_some, if_neg hy, if_pos rfl]

end Go.Proofs.Ytfllcmeakcbiaaa.Pure
