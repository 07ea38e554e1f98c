/- Complain of the program returns what Complain of the reference returns, for all arguments, leaves its argument as it was, and its answer owns its memory; without conditions. -/
import Derived.Test.YtkfbcmbemihbnaaPFnExactComplainx11
set_option linter.unusedVariables false
set_option linter.unusedSimpArgs false
namespace Go.Proofs.Ytkfbcmbemihbnaa.Pure
open Go.RowKit Go.Proofs.Ytkfbcmbemihbnaa.PFnExactComplain Go.Proofs.YtkfbcmbemihbnaaW.PrintWords Go.Proofs.YtkfbcmbemihbnaaW.PrintLast

/-! ### base -/
theorem wf64 {a : Int} (h : (Lit.int .i64 a).wf = true) : -9223372036854775808 ≤ a ∧ a ≤ 9223372036854775807 := by
  have h1 : IntKind.i64.min = -9223372036854775808 := by decide
  have h2 : IntKind.i64.max = 9223372036854775807 := by decide
  simp only [Lit.wf, Bool.and_eq_true, decide_eq_true_eq] at h
  omega
theorem tm_pos {a : Int} (n : Int) (h : 0 ≤ a) : Int.tmod a n = a % n := Int.tmod_eq_emod_of_nonneg h
theorem tm_neg {a : Int} (n : Int) (h : a ≤ 0) : Int.tmod a n = -((-a) % n) := by
  have := Int.neg_tmod (-a) n
  rw [Int.neg_neg] at this
  rw [this, Int.tmod_eq_emod_of_nonneg (by omega)]
theorem td_pos {a : Int} (n : Int) (h : 0 ≤ a) : Int.tdiv a n = a / n := Int.tdiv_eq_ediv_of_nonneg h
theorem wr64 {a : Int} (h : -9223372036854775808 ≤ a ∧ a ≤ 9223372036854775807) : wrap64 a = a := by
  unfold wrap64
  omega
theorem dec_eq {p : Prop} [Decidable p] {b : Bool} (h : b = true ↔ p) : some b = some (decide p) := by
  rw [Option.some.injEq, Bool.eq_iff_iff, decide_eq_true_eq]
  exact h
theorem ite_dec (p q : Prop) [Decidable p] [Decidable q] : (if p then some (decide q) else some false) = some (decide (p ∧ q)) := by
  by_cases h : p <;> simp [h]
theorem beq_dec (a b : Int) : (a == b) = decide (a = b) := by
  rw [Bool.eq_iff_iff]
  simp

/-! ### bits -/
theorem wraps_i64 (n : Int) (h₀ : 0 ≤ n) (h₁ : n < 2 ^ 63) : IntKind.i64.wrap n = n := by rw [IntKind.wrap_i64]; omega
/-- The low bits of any whole number. -/
theorem and_low (i : Nat) (hi : i ≤ 62) (x : Int) : Go.bits .and .i64 x (2 ^ i - 1) = x % 2 ^ i := by
  have hpos : 0 < 2 ^ i := Nat.two_pow_pos i
  have h62 : 2 ^ i ≤ 2 ^ 62 := Nat.pow_le_pow_right (by decide) hi
  have hc : ((2 : Int) ^ i - 1) = ((2 ^ i - 1 : Nat) : Int) := by
    rw [Int.natCast_sub hpos]; simp
  have hx0 : 0 ≤ x % 18446744073709551616 := Int.emod_nonneg _ (by decide)
  have hx : (BitVec.ofInt 64 x).toNat = (x % 18446744073709551616).toNat := by rw [BitVec.toNat_ofInt]; rfl
  have hd : ((2 : Int) ^ i) ∣ 18446744073709551616 := by
    rw [show (18446744073709551616 : Int) = 2 ^ 64 from rfl]
    exact ⟨2 ^ (64 - i), by rw [← Int.pow_add, show i + (64 - i) = 64 from by omega]⟩
  have h2 : ((x % 18446744073709551616).toNat % 2 ^ i : Nat) = (x % 2 ^ i).toNat := by
    apply Int.ofNat.inj
    have e1 : (((x % 18446744073709551616).toNat % 2 ^ i : Nat) : Int) = x % 2 ^ i := by
      rw [Int.natCast_emod, Int.toNat_of_nonneg hx0, Int.natCast_pow]
      exact Int.emod_emod_of_dvd _ hd
    have e2 : 0 ≤ x % 2 ^ i := Int.emod_nonneg _ (by have : (0 : Int) < 2 ^ i := Int.pow_pos (by decide); omega)
    exact e1.trans (Int.toNat_of_nonneg e2).symm
  have e2 : 0 ≤ x % 2 ^ i := Int.emod_nonneg _ (by have : (0 : Int) < 2 ^ i := Int.pow_pos (by decide); omega)
  have e3 : x % 2 ^ i < 2 ^ i := Int.emod_lt_of_pos _ (Int.pow_pos (by decide))
  have e4 : (2 : Int) ^ i ≤ 2 ^ 62 := by exact_mod_cast h62
  have key : Go.bits .and .i64 x (2 ^ i - 1) = IntKind.i64.wrap (((BitVec.ofInt 64 x).toNat &&& (BitVec.ofInt 64 ((2 ^ i - 1 : Nat) : Int)).toNat : Nat) : Int) := by
    rw [hc]
    show IntKind.i64.wrap ((BitVec.ofInt 64 x &&& BitVec.ofInt 64 ((2 ^ i - 1 : Nat) : Int)).toNat : Int) = _
    rw [BitVec.toNat_and]
  rw [key, hx]
  have hm : (BitVec.ofInt 64 ((2 ^ i - 1 : Nat) : Int)).toNat = 2 ^ i - 1 := by
    rw [BitVec.ofInt_natCast, BitVec.toNat_ofNat]
    exact Nat.mod_eq_of_lt (by omega)
  rw [hm, Nat.and_two_pow_sub_one_eq_mod, h2, Int.toNat_of_nonneg e2]
  exact wraps_i64 _ e2 (by omega)
theorem and_65535 (x : Int) : Go.bits .and .i64 x 65535 = x % 65536 := and_low 16 (by decide) x
theorem and_255 (x : Int) : Go.bits .and .i64 x 255 = x % 256 := and_low 8 (by decide) x
theorem nat_and_high (a n : Nat) (ha : a < 2 ^ 32) (hn : n ≤ 32) : a &&& ((2 ^ (32 - n) - 1) * 2 ^ n) = a / 2 ^ n * 2 ^ n := by
  apply Nat.eq_of_testBit_eq
  intro i
  rw [Nat.testBit_and, Nat.testBit_mul_two_pow, Nat.testBit_mul_two_pow, Nat.testBit_div_two_pow, Nat.testBit_two_pow_sub_one]
  by_cases h : n ≤ i
  · simp only [h, decide_true, Bool.true_and]
    rw [show i - n + n = i from by omega]
    by_cases h3 : i - n < 32 - n
    · simp [h3]
    · have : a.testBit i = false := Nat.testBit_lt_two_pow (Nat.lt_of_lt_of_le ha (Nat.pow_le_pow_right (by decide) (by omega)))
      simp [this]
  · simp [h]
theorem and_high (a : Int) (n : Nat) (h0 : 0 ≤ a) (h1 : a ≤ 4294967295) (hn : n ≤ 32) : Go.bits .and .i64 a ((2 ^ (32 - n) - 1) * 2 ^ n) = a / 2 ^ n * 2 ^ n := by
  obtain ⟨b, rfl⟩ := Int.eq_ofNat_of_zero_le h0
  have hc : (((2 : Int) ^ (32 - n) - 1) * 2 ^ n) = (((2 ^ (32 - n) - 1) * 2 ^ n : Nat) : Int) := by
    rw [Int.natCast_mul, Int.natCast_sub (Nat.two_pow_pos _)]; simp
  have hl : (2 ^ (32 - n) - 1) * 2 ^ n ≤ 4294967295 := by
    rw [Nat.sub_mul, ← Nat.pow_add, show 32 - n + n = 32 from by omega]
    have := Nat.two_pow_pos n
    omega
  rw [hc, (bits_nat .i64 63 (by decide) wraps_i64 b _ (by omega) (by omega)).1, nat_and_high b n (by omega) hn]
  simp

/-! ### addr0 -/
theorem in_f (a l h : Int) : spec_l01In.f a l h = some (decide (l ≤ a ∧ a ≤ h)) := by
  unfold spec_l01In.f
  by_cases h1 : a ≥ l
  · rw [if_pos h1]; congr 1; rw [decide_eq_decide]; omega
  · rw [if_neg h1]; congr 1; rw [eq_comm, decide_eq_false_iff_not]; omega

/-! ### addr -/
theorem addrOK_f (a : Int) : spec_l02AddrOK.f a = some (decide (0 ≤ a ∧ a ≤ 4294967295)) := by
  unfold spec_l02AddrOK.f
  rw [in_f]
  rfl
theorem isAddr_f (a : Int) : impl_isAddr.f a = some (decide (0 ≤ a ∧ a ≤ 4294967295)) := by
  unfold impl_isAddr.f
  by_cases h1 : a ≥ 0
  · rw [if_pos h1]; congr 1; rw [decide_eq_decide]; omega
  · rw [if_neg h1]; congr 1; rw [eq_comm, decide_eq_false_iff_not]; omega

/-! ### lists -/
theorem rd_at {xs : List Int} {i : Nat} (h : i < xs.length) : rd xs (i : Int) = xs[i] := by
  unfold rd
  rw [Int.toNat_natCast, List.getD_eq_getElem?_getD, List.getElem?_eq_getElem h]
  rfl
theorem wr_succ {i n : Nat} (h : i < n) (hn : n ≤ 281474976710656) : wrap64 ((i : Int) + 1) = ((i + 1 : Nat) : Int) := by
  rw [wr64 (by omega)]
  omega
theorem maxLen_le {n : Nat} (h : n ≤ 1048576) : n ≤ 281474976710656 := by omega

/-! ### tobytes -/
theorem toB_l (x0 : List Int) (hn : x0.length ≤ 281474976710656) (d : Nat) : ∀ (k i : Nat) (x3 : List Int), i + d = x0.length → d < k → x3.length = x0.length → (∀ j, j < i → x3[j]? = x0[j]?) → laws_toByteS.l0 k x0 x3 (i : Int) = some x0 := by
  induction d with
  | zero =>
    intro k i x3 hi hk hl he
    obtain ⟨k, rfl⟩ : ∃ m, k = m + 1 := ⟨k - 1, by omega⟩
    simp only [laws_toByteS.l0]
    rw [if_neg (by omega)]
    congr 1
    apply List.ext_getElem?
    intro j
    by_cases hj : j < i
    · exact he j hj
    · rw [List.getElem?_eq_none (by omega), List.getElem?_eq_none (by omega)]
  | succ d ih =>
    intro k i x3 hi hk hl he
    obtain ⟨k, rfl⟩ : ∃ m, k = m + 1 := ⟨k - 1, by omega⟩
    simp only [laws_toByteS.l0]
    rw [if_pos (by omega), if_pos (by omega), if_pos (by omega), wr_succ (n := x0.length) (by omega) hn]
    refine ih k (i + 1) _ (by omega) (by omega) (by simp [hl]) ?_
    intro j hj
    rw [Int.toNat_natCast]
    by_cases e : j = i
    · subst e
      rw [List.getElem?_set_self (by omega), rd_at (by omega), List.getElem?_eq_getElem (by omega)]
    · rw [List.getElem?_set_ne (by omega)]
      exact he j (by omega)
theorem toB_f {l : List Int} (hn : l.length ≤ 281474976710656) {k : Nat} (hk : l.length < k) : laws_toByteS.f k l = some l := by
  unfold laws_toByteS.f
  rw [if_pos (by omega), if_pos (by simpa using hn), Int.toNat_natCast]
  exact toB_l l hn l.length k 0 _ (by omega) hk (by simp) (fun j hj => absurd hj (by omega))

/-! ### eqbytes -/
theorem eqB_l (x0 x1 : List Int) (hn : x0.length ≤ 281474976710656) (hl : x0.length = x1.length) (d : Nat) : ∀ (k i : Nat), i + d = x0.length → d < k → (∀ j, j < i → x0[j]? = x1[j]?) → laws_eqByteS.l0 k x0 x1 (i : Int) = some (decide (x0 = x1)) := by
  induction d with
  | zero =>
    intro k i hi hk he
    obtain ⟨k, rfl⟩ : ∃ m, k = m + 1 := ⟨k - 1, by omega⟩
    simp only [laws_eqByteS.l0]
    rw [if_neg (by omega)]
    have : x0 = x1 := by
      apply List.ext_getElem?
      intro j
      by_cases hj : j < i
      · exact he j hj
      · rw [List.getElem?_eq_none (by omega), List.getElem?_eq_none (by omega)]
    simp [this]
  | succ d ih =>
    intro k i hi hk he
    obtain ⟨k, rfl⟩ : ∃ m, k = m + 1 := ⟨k - 1, by omega⟩
    simp only [laws_eqByteS.l0]
    rw [if_pos (by omega), if_pos (by omega), if_pos (by omega), wr_succ (n := x0.length) (by omega) hn, rd_at (by omega), rd_at (by omega)]
    by_cases e : x0[i] = x1[i]
    · rw [if_pos e]
      refine ih k (i + 1) (by omega) (by omega) ?_
      intro j hj
      by_cases ej : j = i
      · subst ej
        rw [List.getElem?_eq_getElem (by omega), List.getElem?_eq_getElem (by omega), e]
      · exact he j (by omega)
    · rw [if_neg e]
      have : x0 ≠ x1 := fun h => by
        subst h
        exact e rfl
      simp [this]
theorem eqB_f {l m : List Int} (hn : l.length ≤ 281474976710656) {k : Nat} (hk : l.length < k) : laws_eqByteS.f k l m = some (decide (l = m)) := by
  unfold laws_eqByteS.f
  by_cases h : l.length = m.length
  · rw [if_pos (by omega)]
    exact eqB_l l m hn h l.length k 0 (by omega) hk (fun j hj => absurd hj (by omega))
  · rw [if_neg (by omega)]
    have : l ≠ m := fun e => h (by rw [e])
    simp [this]

/-! ### szbytes -/
theorem szB_f {l : List Int} {a : Int} (ha : 0 ≤ a ∧ a ≤ 1048576) (hl : l.length ≤ 9223372036854775807) : laws_szByteS.f l a = some (if (l.length : Int) > a then -1 else a - (l.length : Int)) := by
  unfold laws_szByteS.f
  rw [wr64 (by omega)]
  by_cases h : (l.length : Int) > a
  · rw [if_pos (by omega), if_pos h]
  · rw [if_neg (by omega), if_neg h]
theorem len_of {l : List Int} (h : l.length ≤ maxLen) : l.length ≤ 9223372036854775807 := by
  unfold maxLen at h
  exact h

/-! ### szpacket -/
theorem szP_f (tos id : Int) (df mf : Bool) (off ttl proto src dst : Int) (o p : List Int) (ho : o.length ≤ 9223372036854775807) (hp : p.length ≤ 9223372036854775807) : ∃ r, laws_szPacket.f tos id df mf off ttl proto src dst o p 1048576 = some r ∧ (¬ r < 0 → o.length + p.length ≤ 1048576) := by
  unfold laws_szPacket.f
  rw [szB_f (by omega) ho]
  simp only [Option.bind_some]
  by_cases h1 : (o.length : Int) > 1048576
  · simp only [h1, if_true]
    exact ⟨_, rfl, fun h => absurd h (by omega)⟩
  · rw [if_neg h1]
    rw [if_neg (by omega), szB_f (by omega) hp]
    simp only [Option.bind_some]
    by_cases h2 : (p.length : Int) > 1048576 - (o.length : Int)
    · simp only [h2, if_true]
      exact ⟨_, rfl, fun h => absurd h (by omega)⟩
    · rw [if_neg h2, if_neg (by omega)]
      exact ⟨_, rfl, fun _ => by omega⟩

/-! ### eqpacket -/
theorem eqP_same (tos id : Int) (df mf : Bool) (off ttl proto src dst : Int) (o p : List Int) {k : Nat} (h : o.length + p.length ≤ 4194304) (hk : o.length + p.length < k) : laws_eqPacket.f k tos id df mf off ttl proto src dst o p tos id df mf off ttl proto src dst o p = some true := by
  unfold laws_eqPacket.f
  rw [eqB_f (by omega) (by omega), eqB_f (by omega) (by omega)]
  simp

/-! ### topacket -/
theorem toP_f (tos id : Int) (df mf : Bool) (off ttl proto src dst : Int) (o p : List Int) {k : Nat} (h : o.length + p.length ≤ 1048576) (hk : o.length + p.length < k) : laws_toPacket.f k tos id df mf off ttl proto src dst o p = some (tos, id, df, mf, off, ttl, proto, src, dst, o, p) := by
  unfold laws_toPacket.f
  rw [toB_f (by omega) (by omega), toB_f (by omega) (by omega)]
  rfl

/-! ### marks -/
/-- n marks from a number on. -/
def mks (a : Int) : Nat → List Int
  | 0 => []
  | n + 1 => mks a n ++ [(a + n) % 256]
theorem mks_len (a : Int) (n : Nat) : (mks a n).length = n := by
  induction n with
  | zero => rfl
  | succ n ih => simp [mks, ih]
theorem mks_at (a : Int) (n : Nat) : ∀ j, j < n → (mks a n)[j]? = some ((a + j) % 256) := by
  induction n with
  | zero => intro j h; omega
  | succ n ih =>
    intro j h
    unfold mks
    by_cases e : j < n
    · rw [List.getElem?_append_left (by rw [mks_len]; exact e)]
      exact ih j e
    · obtain rfl : j = n := by omega
      rw [List.getElem?_append_right (by rw [mks_len]; exact Nat.le_refl _), mks_len]
      simp
theorem markB_l (n : Nat) (a : Int) (ha : 0 ≤ a ∧ a ≤ 1099511627776) (hn : n ≤ 1099511627776) (d : Nat) : ∀ (k i : Nat) (x0 : List Int), x0.length = n → i + d = n → d < k → (∀ j, j < i → x0[j]? = some ((a + j) % 256)) → laws_markByteS.l0 k x0 (a + i) (i : Int) = some (a + n, mks a n) := by
  induction d with
  | zero =>
    intro k i x0 hl hi hk he
    obtain ⟨k, rfl⟩ : ∃ m, k = m + 1 := ⟨k - 1, by omega⟩
    simp only [laws_markByteS.l0]
    rw [if_neg (by omega)]
    congr 1
    rw [Prod.mk.injEq]
    refine ⟨by omega, ?_⟩
    apply List.ext_getElem?
    intro j
    by_cases hj : j < n
    · rw [he j (by omega), mks_at _ _ _ hj]
    · rw [List.getElem?_eq_none (by omega), List.getElem?_eq_none (by rw [mks_len]; omega)]
  | succ d ih =>
    intro k i x0 hl hi hk he
    obtain ⟨k, rfl⟩ : ∃ m, k = m + 1 := ⟨k - 1, by omega⟩
    simp only [laws_markByteS.l0]
    rw [if_pos (by omega), if_pos (by omega), wr64 (a := (i : Int) + 1) (by omega), wr64 (by omega), show a + (i : Int) + 1 = a + ((i + 1 : Nat) : Int) from by omega, show (i : Int) + 1 = ((i + 1 : Nat) : Int) from by omega, Int.toNat_natCast]
    refine ih k (i + 1) _ (by simp [hl]) (by omega) (by omega) ?_
    intro j hj
    by_cases e : j = i
    · subst e
      rw [List.getElem?_set_self (by omega)]
    · rw [List.getElem?_set_ne (by omega)]
      exact he j (by omega)
theorem markB_f {l : List Int} {a : Int} (ha : 0 ≤ a ∧ a ≤ 1099511627776) (hn : l.length ≤ 1099511627776) {k : Nat} (hk : l.length < k) : laws_markByteS.f k l a = some (a + l.length, mks a l.length) := by
  unfold laws_markByteS.f
  have := markB_l l.length a ha hn l.length k 0 l rfl (by omega) hk (fun j hj => absurd hj (by omega))
  simpa using this
theorem heldB_l (n : Nat) (a : Int) (ha : 0 ≤ a ∧ a ≤ 1099511627776) (hn : n ≤ 1099511627776) (d : Nat) : ∀ (k i : Nat), i + d = n → d < k → laws_heldByteS.l0 k (mks a n) (a + i) (i : Int) = some (a + n) := by
  induction d with
  | zero =>
    intro k i hi hk
    obtain ⟨k, rfl⟩ : ∃ m, k = m + 1 := ⟨k - 1, by omega⟩
    simp only [laws_heldByteS.l0]
    rw [if_neg (by rw [mks_len]; omega)]
    congr 1
    omega
  | succ d ih =>
    intro k i hi hk
    obtain ⟨k, rfl⟩ : ∃ m, k = m + 1 := ⟨k - 1, by omega⟩
    simp only [laws_heldByteS.l0]
    have hr : rd (mks a n) (i : Int) = (a + i) % 256 := by
      unfold rd
      rw [Int.toNat_natCast, List.getD_eq_getElem?_getD, mks_at a n i (by omega)]
      rfl
    rw [if_pos (by rw [mks_len]; omega), if_pos (by omega), if_pos hr, wr64 (a := (i : Int) + 1) (by omega), wr64 (by omega), show a + (i : Int) + 1 = a + ((i + 1 : Nat) : Int) from by omega, show (i : Int) + 1 = ((i + 1 : Nat) : Int) from by omega]
    exact ih k (i + 1) (by omega) (by omega)
theorem heldB_f {n : Nat} {a : Int} (ha : 0 ≤ a ∧ a ≤ 1099511627776) (hn : n ≤ 1099511627776) {k : Nat} (hk : n < k) : laws_heldByteS.f k (mks a n) a = some (a + n) := by
  unfold laws_heldByteS.f
  have := heldB_l n a ha hn n k 0 (by omega) hk
  simpa using this

/-! ### heldpacket -/
theorem markP_f (tos id : Int) (df mf : Bool) (off ttl proto src dst : Int) (o p : List Int) {k : Nat} (h : o.length + p.length ≤ 4194304) (hk : o.length + p.length < k) : laws_markPacket.f k tos id df mf off ttl proto src dst o p 1 = some ((1 : Int) + o.length + p.length, mks 1 o.length, mks (1 + o.length) p.length) := by
  unfold laws_markPacket.f
  rw [markB_f (by omega) (by omega) (by omega)]
  simp only [Option.bind_some]
  rw [markB_f (by omega) (by omega) (by omega)]
  rfl
theorem heldP_f (tos id : Int) (df mf : Bool) (off ttl proto src dst : Int) (n m : Nat) {k : Nat} (h : n + m ≤ 4194304) (hk : n + m < k) : laws_heldPacket.f k tos id df mf off ttl proto src dst (mks 1 n) (mks (1 + n) m) 1 = some ((1 : Int) + n + m) := by
  unfold laws_heldPacket.f
  rw [heldB_f (by omega) (by omega) (by omega)]
  simp only [Option.bind_some]
  rw [if_neg (by omega), heldB_f (by omega) (by omega) (by omega)]
  simp only [Option.bind_some]
  rw [if_neg (by omega)]

/-! ### kind -/
theorem kind_eq (a : Int) : spec_AddrKind.f a = impl_AddrKind.f a := by
  unfold spec_AddrKind.f impl_AddrKind.f
  rw [addrOK_f, isAddr_f]
  simp only [Option.bind_some]
  by_cases h : 0 ≤ a ∧ a ≤ 4294967295
  · simp only [h, and_self, decide_true, if_true]
    repeat' split
    all_goals first | rfl | omega
  · simp [h]
theorem kind_some (a : Int) : ∃ r, impl_AddrKind.f a = some r := by
  unfold impl_AddrKind.f
  rw [isAddr_f]
  simp only [Option.bind_some]
  repeat' split
  all_goals exact ⟨_, rfl⟩

/-! ### ip -/
theorem tm8 (a : Int) : (Int.tmod a 8 = 0) ↔ a % 8 = 0 := by
  rcases Int.le_total 0 a with h | h
  · rw [tm_pos _ h]
  · rw [tm_neg _ h]
    omega
def okI (tos id off ttl proto src dst : Int) (o : List Int) : Prop := (0 ≤ tos ∧ tos ≤ 255) ∧ (0 ≤ ttl ∧ ttl ≤ 255) ∧ (0 ≤ proto ∧ proto ≤ 255) ∧ (0 ≤ id ∧ id ≤ 65535) ∧ (0 ≤ off ∧ off ≤ 65528) ∧ off % 8 = 0 ∧ (0 ≤ src ∧ src ≤ 4294967295) ∧ (0 ≤ dst ∧ dst ≤ 4294967295) ∧ (o.length : Int) ≤ 40 ∧ (o.length : Int) % 4 = 0
instance (tos id off ttl proto src dst : Int) (o : List Int) : Decidable (okI tos id off ttl proto src dst o) := by unfold okI; exact inferInstance
theorem okI_spec (tos id : Int) (df mf : Bool) (off ttl proto src dst : Int) (o p : List Int) : spec_l05OK.f tos id df mf off ttl proto src dst o p = some (decide (okI tos id off ttl proto src dst o)) := by
  unfold spec_l05OK.f
  simp only [in_f, addrOK_f, Option.bind_some, decide_eq_true_eq, tm8, beq_dec, ite_dec]
  apply dec_eq
  rw [decide_eq_true_eq]
  unfold okI
  omega
theorem okI_impl (tos id : Int) (df mf : Bool) (off ttl proto src dst : Int) (o p : List Int) : impl_okIP.f tos id df mf off ttl proto src dst o p = some (decide (okI tos id off ttl proto src dst o)) := by
  unfold impl_okIP.f
  simp only [isAddr_f, Option.bind_some, decide_eq_true_eq, tm8, beq_dec, ite_dec]
  apply dec_eq
  rw [decide_eq_true_eq]
  unfold okI
  omega

/-! ### wsum -/
/-- What a sum of numbers of two bytes folds to. -/
def fold (s : Int) : Int := if s = 0 then 0 else (s - 1) % 65535 + 1
theorem fold_le (s : Int) (h : 0 ≤ s) : 0 ≤ fold s ∧ fold s ≤ 65535 := by unfold fold; split <;> omega
theorem fold_low {s : Int} (h : 0 ≤ s ∧ s ≤ 65535) : fold s = s := by unfold fold; split <;> omega
theorem fold_step {s : Int} (h : s > 65535) : fold (s / 65536 + s % 65536) = fold s := by
  unfold fold
  rw [if_neg (by omega), if_neg (by omega)]
  omega
theorem fold_sub {s : Int} (h : s > 65535) : fold (s - 65535) = fold s := by
  unfold fold
  rw [if_neg (by omega), if_neg (by omega)]
  omega
/-- The sum of bytes: the one at a place with 'b' counts 256 times, and so on in turn. -/
def wsp : Bool → List Int → Int
  | _, [] => 0
  | true, a :: r => a * 256 + wsp false r
  | false, a :: r => a + wsp true r
/-- All are bytes. -/
def Bs (l : List Int) : Prop := ∀ x ∈ l, 0 ≤ x ∧ x ≤ 255
theorem Bs.get {l : List Int} (h : Bs l) {i : Nat} (hi : i < l.length) : 0 ≤ l[i] ∧ l[i] ≤ 255 := h _ (List.getElem_mem hi)
theorem Bs.of {l : List Int} (h : ∀ x ∈ l, (Lit.int .u8 x).wf = true) : Bs l := by
  intro x hx
  have hw := h x hx
  have h1 : IntKind.u8.min = 0 := by decide
  have h2 : IntKind.u8.max = 255 := by decide
  simp only [Lit.wf, Bool.and_eq_true, decide_eq_true_eq] at hw
  omega
theorem Bs.append {a b : List Int} (ha : Bs a) (hb : Bs b) : Bs (a ++ b) := by
  intro x hx
  rcases List.mem_append.1 hx with h | h
  · exact ha x h
  · exact hb x h
theorem Bs.take {l : List Int} (h : Bs l) (n : Nat) : Bs (l.take n) := fun x hx => h x (List.mem_of_mem_take hx)
theorem Bs.drop {l : List Int} (h : Bs l) (n : Nat) : Bs (l.drop n) := fun x hx => h x (List.mem_of_mem_drop hx)
theorem Bs.tail {a : Int} {l : List Int} (h : Bs (a :: l)) : Bs l := fun x hx => h x (List.mem_cons_of_mem _ hx)
theorem wsp_bd (l : List Int) : ∀ (b : Bool), Bs l → 0 ≤ wsp b l ∧ wsp b l ≤ 65280 * (l.length : Int) := by
  induction l with
  | nil => intro b _; cases b <;> simp [wsp]
  | cons a r ih =>
    intro b h
    have ha := h a (List.mem_cons_self ..)
    have h1 := ih true h.tail
    have h2 := ih false h.tail
    cases b <;> (simp only [wsp, List.length_cons]; omega)
theorem drop_cons {l : List Int} {i : Nat} (h : i < l.length) : l.drop i = l[i] :: l.drop (i + 1) := List.drop_eq_getElem_cons h
/-- The checksum of bytes. -/
def csum (l : List Int) : Int := 65535 - fold (wsp true l)
theorem csum_le {l : List Int} (h : Bs l) : 0 ≤ csum l ∧ csum l ≤ 65535 := by
  have := fold_le _ (wsp_bd l true h).1
  unfold csum
  omega

/-! ### be -/
/-- The low n bytes of a number, the high one first. -/
def be : Nat → Int → List Int
  | 0, _ => []
  | n + 1, v => (v / 2 ^ (8 * n) % 256) :: be n v
theorem be_len (n : Nat) (v : Int) : (be n v).length = n := by
  induction n with
  | zero => rfl
  | succ n ih => simp [be, ih]

/-! ### bebytes -/
theorem be_bytes (n : Nat) (v : Int) : Bs (be n v) := by
  induction n with
  | zero => intro x hx; cases hx
  | succ n ih =>
    intro x hx
    rcases List.mem_cons.1 hx with rfl | h
    · omega
    · exact ih x h

/-! ### l01copy -/
theorem copy_l (x0 : List Int) (hn : x0.length ≤ 1048576) (d : Nat) : ∀ (k i : Nat), i + d = x0.length → d < k → spec_l01Copy.l0 k x0 (x0.take i) (i : Int) = some x0 := by
  induction d with
  | zero =>
    intro k i hi hk
    obtain ⟨k, rfl⟩ : ∃ m, k = m + 1 := ⟨k - 1, by omega⟩
    simp only [spec_l01Copy.l0]
    rw [if_neg (by omega), List.take_of_length_le (by omega)]
  | succ d ih =>
    intro k i hi hk
    obtain ⟨k, rfl⟩ : ∃ m, k = m + 1 := ⟨k - 1, by omega⟩
    simp only [spec_l01Copy.l0]
    rw [if_pos (by omega), if_pos (by omega), if_pos (by rw [List.length_take]; omega), wr_succ (n := x0.length) (by omega) (by omega), rd_at (by omega), ← List.take_succ_eq_append_getElem (by omega)]
    exact ih k (i + 1) (by omega) (by omega)
theorem copy_f {l : List Int} (hn : l.length ≤ 1048576) {k : Nat} (hk : l.length < k) : spec_l01Copy.f k l = some l := copy_l l hn l.length k 0 (by omega) hk

/-! ### l01join -/
theorem join_l (a x1 : List Int) (ha : a.length ≤ 1048576) (hn : x1.length ≤ 1048576) (d : Nat) : ∀ (k i : Nat), i + d = x1.length → d < k → spec_l01Join.l0 k x1 (a ++ x1.take i) (i : Int) = some (a ++ x1) := by
  induction d with
  | zero =>
    intro k i hi hk
    obtain ⟨k, rfl⟩ : ∃ m, k = m + 1 := ⟨k - 1, by omega⟩
    simp only [spec_l01Join.l0]
    rw [if_neg (by omega), List.take_of_length_le (by omega)]
  | succ d ih =>
    intro k i hi hk
    obtain ⟨k, rfl⟩ : ∃ m, k = m + 1 := ⟨k - 1, by omega⟩
    simp only [spec_l01Join.l0]
    rw [if_pos (by omega), if_pos (by omega), if_pos (by rw [List.length_append, List.length_take]; omega), wr_succ (n := x1.length) (by omega) (by omega), rd_at (by omega), List.append_assoc, ← List.take_succ_eq_append_getElem (by omega)]
    exact ih k (i + 1) (by omega) (by omega)
theorem join_f {a b : List Int} (ha : a.length ≤ 1048576) (hb : b.length ≤ 1048576) {k : Nat} (hk : a.length < k) (hk2 : b.length < k) : spec_l01Join.f k a b = some (a ++ b) := by
  unfold spec_l01Join.f
  rw [copy_f ha hk]
  have := join_l a b ha hb b.length k 0 (by omega) hk2
  simpa using this

/-! ### specsum -/
theorem ssum_l (l : List Int) (hb : Bs l) (hn : l.length ≤ 1048576) (d : Nat) : ∀ (k i : Nat) (s : Int), l.length - i ≤ d → d < k → 0 ≤ s → s ≤ 65535 → i ≤ l.length + 1 → spec_l01Sum.l0 k l s (i : Int) = some (fold (s + wsp true (l.drop i))) := by
  induction d with
  | zero =>
    intro k i s hi hk h0 h1 hl
    obtain ⟨k, rfl⟩ : ∃ m, k = m + 1 := ⟨k - 1, by omega⟩
    simp only [spec_l01Sum.l0]
    rw [if_neg (by omega), List.drop_eq_nil_of_le (by omega)]
    simp only [wsp, Int.add_zero]
    rw [fold_low ⟨h0, h1⟩]
  | succ d ih =>
    intro k i s hi hk h0 h1 hl
    obtain ⟨k, rfl⟩ : ∃ m, k = m + 1 := ⟨k - 1, by omega⟩
    simp only [spec_l01Sum.l0]
    by_cases c1 : i < l.length
    · have b1 := hb.get c1
      rw [if_pos (by omega), if_pos (by omega), wr64 (a := (i : Int) + 1) (by omega), rd_at c1, wr64 (a := l[i]) (by omega), wr64 (a := l[i] * 256) (by omega), drop_cons c1]
      by_cases c2 : i + 1 < l.length
      · have b2 := hb.get c2
        have bd := wsp_bd (l.drop (i + 1 + 1)) true (hb.drop _)
        rw [if_pos (by omega), if_pos (by omega), show (i : Int) + 1 = ((i + 1 : Nat) : Int) from by omega, rd_at c2, wr64 (a := l[i + 1]) (by omega), wr64 (a := l[i] * 256 + l[i + 1]) (by omega), wr64 (a := s + (l[i] * 256 + l[i + 1])) (by omega), wr64 (a := (i : Int) + 2) (by omega), show (i : Int) + 2 = ((i + 1 + 1 : Nat) : Int) from by omega, drop_cons c2]
        simp only [wsp]
        by_cases c3 : s + (l[i] * 256 + l[i + 1]) > 65535
        · rw [if_pos c3, wr64 (by omega), ih k _ _ (by omega) (by omega) (by omega) (by omega) (by omega)]
          rw [← fold_sub (s := s + (l[i] * 256 + (l[i + 1] + wsp true (l.drop (i + 1 + 1))))) (by omega)]
          congr 2
          omega
        · rw [if_neg c3, ih k _ _ (by omega) (by omega) (by omega) (by omega) (by omega)]
          congr 2
          omega
      · rw [if_neg (by omega), wr64 (a := s + l[i] * 256) (by omega), wr64 (a := (i : Int) + 2) (by omega), show (i : Int) + 2 = ((i + 2 : Nat) : Int) from by omega, List.drop_eq_nil_of_le (show l.length ≤ i + 1 by omega)]
        have e2 : l.drop (i + 2) = [] := List.drop_eq_nil_of_le (by omega)
        simp only [wsp, Int.add_zero]
        by_cases c3 : s + l[i] * 256 > 65535
        · rw [if_pos c3, wr64 (by omega), ih k _ _ (by omega) (by omega) (by omega) (by omega) (by omega), e2]
          simp only [wsp, Int.add_zero]
          rw [← fold_sub (s := s + l[i] * 256) c3]
        · rw [if_neg c3, ih k _ _ (by omega) (by omega) (by omega) (by omega) (by omega), e2]
          simp only [wsp, Int.add_zero]
    · rw [if_neg (by omega), List.drop_eq_nil_of_le (by omega)]
      simp only [wsp, Int.add_zero]
      rw [fold_low ⟨h0, h1⟩]
theorem scheck_f {l : List Int} (hb : Bs l) (hn : l.length ≤ 1048576) {k : Nat} (hk : l.length < k) : spec_Checksum.f k l = some (csum l) := by
  unfold spec_Checksum.f spec_l01Sum.f
  have h := ssum_l l hb hn l.length k 0 0 (by omega) hk (by omega) (by omega) (by omega)
  rw [show ((0 : Nat) : Int) = 0 from rfl] at h
  have bd := wsp_bd l true hb
  have fl := fold_le _ bd.1
  rw [h]
  simp only [Option.bind_some, List.drop_zero, Int.zero_add]
  rw [wr64 (by omega)]
  rfl

/-! ### specput -/
theorem sput_l (v : Int) (n : Nat) : ∀ (k : Nat) (x : List Int), n ≤ 8 → x.length + n ≤ 1048576 → n < k → spec_l03Put.l0 k v x ((n : Int) - 1) = some (x ++ be n v) := by
  induction n with
  | zero =>
    intro k x hn hx hk
    obtain ⟨k, rfl⟩ : ∃ m, k = m + 1 := ⟨k - 1, by omega⟩
    simp only [spec_l03Put.l0]
    rw [if_neg (by omega)]
    simp [be]
  | succ n ih =>
    intro k x hn hx hk
    obtain ⟨k, rfl⟩ : ∃ m, k = m + 1 := ⟨k - 1, by omega⟩
    simp only [spec_l03Put.l0]
    have h8 : IntKind.u64.wrap (wrap64 (8 * (((n + 1 : Nat) : Int) - 1))) = ((8 * n : Nat) : Int) := by
      rw [wr64 (by omega)]
      simp only [IntKind.wrap, IntKind.bits, IntKind.signed]
      simp
      omega
    rw [if_pos (by omega), h8, if_pos (by omega), if_pos (by omega), wr64 (by omega), show ((n + 1 : Nat) : Int) - 1 - 1 = (n : Int) - 1 from by omega]
    rw [ih k _ (by omega) (by simp; omega) (by omega)]
    unfold shr
    rw [show min ((8 * n : Nat) : Int).toNat IntKind.i64.bits = 8 * n from by rw [Int.toNat_natCast]; show min (8 * n) 64 = 8 * n; omega]
    simp [be, List.append_assoc]
theorem sput_f {v : Int} {n : Nat} (hn : n ≤ 8) {k : Nat} (hk : n < k) : spec_l03Put.f k v (n : Int) = some (be n v) := by
  unfold spec_l03Put.f
  rw [wr64 (by omega), sput_l v n k [] hn (by simp; omega) hk]
  rfl

/-! ### ipspec -/
def flg (df mf : Bool) (off : Int) : Int := (if df = true then 16384 else 0) + (if mf = true then 8192 else 0) + off / 8
def ihead (tos id : Int) (df mf : Bool) (off ttl proto src dst : Int) (o p : List Int) : List Int :=
  [(64 + (20 + (o.length : Int)) / 4) % 256, tos % 256] ++ be 2 (20 + (o.length : Int) + (p.length : Int)) ++ be 2 id ++ be 2 (flg df mf off) ++ [ttl % 256, proto % 256, 0, 0] ++ be 4 src ++ be 4 dst ++ o
theorem ihead_len (tos id : Int) (df mf : Bool) (off ttl proto src dst : Int) (o p : List Int) : (ihead tos id df mf off ttl proto src dst o p).length = 20 + o.length := by
  simp [ihead, be_len]
  omega
theorem ihead_bytes (tos id : Int) (df mf : Bool) (off ttl proto src dst : Int) {o : List Int} (p : List Int) (ho : Bs o) : Bs (ihead tos id df mf off ttl proto src dst o p) := by
  unfold ihead
  refine Bs.append (Bs.append (Bs.append (Bs.append (Bs.append (Bs.append (Bs.append ?_ (be_bytes _ _)) (be_bytes _ _)) (be_bytes _ _)) ?_) (be_bytes _ _)) (be_bytes _ _)) ho
  · intro x hx
    simp only [List.mem_cons, List.not_mem_nil, or_false] at hx
    rcases hx with rfl | rfl <;> omega
  · intro x hx
    simp only [List.mem_cons, List.not_mem_nil, or_false] at hx
    rcases hx with rfl | rfl | rfl | rfl <;> omega
def iout (h : List Int) : List Int := (h.set (10 : Int).toNat ((csum h / 256) % 256)).set (11 : Int).toNat (csum h % 256)
theorem iout_len (h : List Int) : (iout h).length = h.length := by simp [iout]
theorem shead_f (tos id : Int) (df mf : Bool) {off : Int} (ttl proto src dst : Int) {o p : List Int} (hoff : 0 ≤ off ∧ off ≤ 65528) (ho : o.length ≤ 40) (hb : Bs o) (hp : p.length ≤ 1048576) {k : Nat} (hk : 200 ≤ k) : spec_l05Head.f k tos id df mf off ttl proto src dst o p = some (iout (ihead tos id df mf off ttl proto src dst o p)) := by
  unfold spec_l05Head.f spec_l05Flag.f
  have hl := ihead_len tos id df mf off ttl proto src dst o p
  have e2 : ∀ v, spec_l03Put.f k v 2 = some (be 2 v) := fun v => sput_f (n := 2) (by omega) (by omega)
  have e4 : ∀ v, spec_l03Put.f k v 4 = some (be 4 v) := fun v => sput_f (n := 4) (by omega) (by omega)
  have hf : wrap64 (wrap64 ((if df = true then (16384 : Int) else 0) + (if mf = true then (8192 : Int) else 0)) + wrap64 (Int.tdiv off 8)) = flg df mf off := by
    rw [td_pos _ hoff.1]
    unfold flg
    cases df <;> cases mf <;> simp only [if_true, if_false, Bool.false_eq_true, wrap64] <;> omega
  rw [wr64 (a := 20 + (o.length : Int)) (by omega), wr64 (a := 20 + (o.length : Int) + (p.length : Int)) (by omega), td_pos (a := 20 + (o.length : Int)) 4 (by omega), wr64 (a := (20 + (o.length : Int)) / 4) (by omega), wr64 (a := 64 + (20 + (o.length : Int)) / 4) (by omega)]
  simp only [e2, e4, Option.bind_some]
  rw [join_f (by simp) (by simp [be_len]) (by simp; omega) (by simp [be_len]; omega)]
  simp only [Option.bind_some]
  rw [join_f (by simp [be_len]) (by simp [be_len]) (by simp [be_len]; omega) (by simp [be_len]; omega)]
  simp only [Option.bind_some]
  rw [show ((if df = true then some (16384 : Int) else some 0) : Option Int) = some (if df = true then 16384 else 0) from by cases df <;> rfl, show ((if mf = true then some (8192 : Int) else some 0) : Option Int) = some (if mf = true then 8192 else 0) from by cases mf <;> rfl]
  simp only [Option.bind_some]
  rw [hf, join_f (by simp [be_len]) (by simp [be_len]) (by simp [be_len]; omega) (by simp [be_len]; omega)]
  simp only [Option.bind_some]
  rw [join_f (by simp [be_len]) (by simp) (by simp [be_len]; omega) (by simp; omega)]
  simp only [Option.bind_some]
  rw [join_f (by simp [be_len]) (by simp [be_len]) (by simp [be_len]; omega) (by simp [be_len]; omega)]
  simp only [Option.bind_some]
  rw [join_f (by simp [be_len]) (by simp [be_len]) (by simp [be_len]; omega) (by simp [be_len]; omega)]
  simp only [Option.bind_some]
  rw [join_f (by simp [be_len]) (by omega) (by simp [be_len]; omega) (by omega)]
  simp only [Option.bind_some]
  rw [show [(64 + (20 + (o.length : Int)) / 4) % 256, tos % 256] ++ be 2 (20 + (o.length : Int) + (p.length : Int)) ++ be 2 id ++ be 2 (flg df mf off) ++ [ttl % 256, proto % 256, 0, 0] ++ be 4 src ++ be 4 dst ++ o = ihead tos id df mf off ttl proto src dst o p from rfl, scheck_f (ihead_bytes _ _ _ _ _ _ _ _ _ _ hb) (by omega) (by omega)]
  simp only [Option.bind_some]
  rw [if_pos (by omega), if_pos (by omega)]
  rfl
def icode (tos id off ttl proto src dst : Int) (o p : List Int) : Int := if okI tos id off ttl proto src dst o then (if 20 + (o.length : Int) + (p.length : Int) > 65535 then 7 else if off + (p.length : Int) > 65535 then 7 else 0) else 1
def iall (tos id : Int) (df mf : Bool) (off ttl proto src dst : Int) (o p : List Int) : List Int × Int := if icode tos id off ttl proto src dst o p = 0 then (iout (ihead tos id df mf off ttl proto src dst o p) ++ p, 0) else ([], icode tos id off ttl proto src dst o p)
theorem icode_zero {tos id off ttl proto src dst : Int} {o p : List Int} (h : icode tos id off ttl proto src dst o p = 0) : okI tos id off ttl proto src dst o ∧ 20 + (o.length : Int) + (p.length : Int) ≤ 65535 ∧ off + (p.length : Int) ≤ 65535 := by
  unfold icode at h
  by_cases h1 : okI tos id off ttl proto src dst o
  · rw [if_pos h1] at h
    refine ⟨h1, ?_⟩
    by_cases h2 : 20 + (o.length : Int) + (p.length : Int) > 65535
    · rw [if_pos h2] at h; omega
    · by_cases h3 : off + (p.length : Int) > 65535
      · rw [if_neg h2, if_pos h3] at h; omega
      · omega
  · rw [if_neg h1] at h; omega
theorem iall_len (tos id : Int) (df mf : Bool) (off ttl proto src dst : Int) (o p : List Int) : (iall tos id df mf off ttl proto src dst o p).1.length ≤ 65535 := by
  unfold iall
  split
  · rename_i h
    have := icode_zero h
    simp only [List.length_append, iout_len, ihead_len]
    omega
  · simp
theorem sip_f (tos id : Int) (df mf : Bool) (off ttl proto src dst : Int) {o p : List Int} (hb : Bs o) (ho : o.length ≤ 1048576) (hp : p.length ≤ 1048576) {k : Nat} (hk : p.length + 300 ≤ k) : spec_EncodeIP.f k tos id df mf off ttl proto src dst o p = some (iall tos id df mf off ttl proto src dst o p) := by
  obtain ⟨k, rfl⟩ : ∃ m, k = m + 1 := ⟨k - 1, by omega⟩
  unfold spec_EncodeIP.f iall icode
  rw [okI_spec]
  simp only [Option.bind_some, decide_eq_true_eq]
  by_cases h1 : okI tos id off ttl proto src dst o
  · have h1' := h1
    unfold okI at h1'
    rw [if_pos h1, if_pos h1, wr64 (a := 20 + (o.length : Int)) (by omega), wr64 (a := 20 + (o.length : Int) + (p.length : Int)) (by omega), wr64 (a := off + (p.length : Int)) (by omega)]
    by_cases h2 : 20 + (o.length : Int) + (p.length : Int) > 65535
    · simp [h2, spec_EncodeIP.j0]
    · by_cases h3 : off + (p.length : Int) > 65535
      · simp [h2, h3, spec_EncodeIP.j0]
      · have hl := ihead_len tos id df mf off ttl proto src dst o p
        simp only [h2, h3, if_false, decide_false, spec_EncodeIP.j0, Bool.false_eq_true, if_true]
        rw [shead_f tos id df mf ttl proto src dst (by omega) (by omega) hb hp (by omega)]
        simp only [Option.bind_some]
        rw [join_f (by rw [iout_len]; omega) (by omega) (by rw [iout_len]; omega) (by omega)]
        rfl
  · rw [if_neg h1, if_neg h1]
    rfl

/-! ### ipcode -/
theorem icodeIP_f (tos id : Int) (df mf : Bool) (off ttl proto src dst : Int) {o p : List Int} (ho : o.length ≤ 1048576) (hp : p.length ≤ 1048576) : impl_codeIP.f tos id df mf off ttl proto src dst o p = some (icode tos id off ttl proto src dst o p) := by
  unfold impl_codeIP.f icode
  rw [okI_impl]
  simp only [Option.bind_some, decide_eq_true_eq]
  by_cases h1 : okI tos id off ttl proto src dst o
  · have h1' := h1
    unfold okI at h1'
    rw [if_pos h1, if_pos h1, wr64 (a := 20 + (o.length : Int)) (by omega), wr64 (a := 20 + (o.length : Int) + (p.length : Int)) (by omega), wr64 (a := off + (p.length : Int)) (by omega)]
    split
    · rfl
    · split <;> rfl
  · rw [if_neg h1, if_neg h1]

/-! ### carried -/
theorem wrap_u64 (n : Int) : IntKind.u64.wrap n = n % 18446744073709551616 := by simp [IntKind.wrap, IntKind.bits, IntKind.signed]
theorem wru {x : Int} (h : 0 ≤ x ∧ x < 18446744073709551616) : IntKind.u64.wrap x = x := by rw [wrap_u64]; omega
theorem wraps_u64 (n : Int) (h₀ : 0 ≤ n) (h₁ : n < 2 ^ 63) : IntKind.u64.wrap n = n := by rw [wrap_u64]; omega
theorem low_u64 (i : Nat) (hi : i ≤ 62) (x : Int) (h0 : 0 ≤ x) (h1 : x < 18446744073709551616) : Go.bits .and .u64 x (2 ^ i - 1) = x % 2 ^ i := by
  obtain ⟨a, rfl⟩ := Int.eq_ofNat_of_zero_le h0
  have hpos : 0 < 2 ^ i := Nat.two_pow_pos i
  have h62 : 2 ^ i ≤ 2 ^ 62 := Nat.pow_le_pow_right (by decide) hi
  have hc : ((2 : Int) ^ i - 1) = ((2 ^ i - 1 : Nat) : Int) := by
    rw [Int.natCast_sub hpos]; simp
  have hw : ∀ n : Int, 0 ≤ n → n < 2 ^ 64 → IntKind.u64.wrap n = n := fun n a b => by rw [wrap_u64]; omega
  rw [hc, (bits_nat .u64 64 (by decide) hw a _ (by omega) (by omega)).1, Nat.and_two_pow_sub_one_eq_mod]
  simp
theorem u64_65535 (x : Int) (h0 : 0 ≤ x) (h1 : x < 18446744073709551616) : Go.bits .and .u64 x 65535 = x % 65536 := low_u64 16 (by decide) x h0 h1
theorem not_u64 (x : Int) (h0 : 0 ≤ x) (h1 : x < 18446744073709551616) : Go.bits .xor .u64 18446744073709551615 x = 18446744073709551615 - x := by
  obtain ⟨a, rfl⟩ := Int.eq_ofNat_of_zero_le h0
  have key : Go.bits .xor .u64 18446744073709551615 (a : Int) = IntKind.u64.wrap ((BitVec.ofInt 64 18446744073709551615 ^^^ BitVec.ofInt 64 (a : Int)).toNat : Int) := rfl
  rw [key, show BitVec.ofInt 64 18446744073709551615 = BitVec.allOnes 64 from by decide, BitVec.allOnes_xor, BitVec.toNat_not, BitVec.ofInt_natCast, BitVec.toNat_ofNat, wrap_u64]
  omega
theorem not_i64 (x : Int) (h : -9223372036854775808 ≤ x ∧ x ≤ 9223372036854775807) : Go.bits .xor .i64 (-1) x = -1 - x := by
  have key : Go.bits .xor .i64 (-1) x = IntKind.i64.wrap ((BitVec.ofInt 64 (-1) ^^^ BitVec.ofInt 64 x).toNat : Int) := rfl
  rw [key, show BitVec.ofInt 64 (-1) = BitVec.allOnes 64 from by decide, BitVec.allOnes_xor, BitVec.toNat_not, BitVec.toNat_ofInt, IntKind.wrap_i64]
  omega
theorem carried_f {s : Int} (h0 : 0 ≤ s) (h1 : s < 281474976710656) {k : Nat} (hk : 8 ≤ k) : impl_carried.f k s = some (fold s) := by
  have h8 : impl_carried.f 8 s = some (fold s) := by
    unfold impl_carried.f
    have step : ∀ (k : Nat) (t : Int), 0 ≤ t → t < 281474976710656 → t > 65535 → impl_carried.l0 (k + 1) t = impl_carried.l0 k (t / 65536 + t % 65536) := by
      intro k t a b c
      simp only [impl_carried.l0]
      rw [if_pos c, u64_65535 _ a (by omega), wrap_u64, Int.emod_eq_of_lt (by omega) (by omega)]
    have stop : ∀ (k : Nat) (t : Int), 0 ≤ t → t ≤ 65535 → impl_carried.l0 (k + 1) t = some (fold t) := by
      intro k t a b
      simp only [impl_carried.l0]
      rw [if_neg (by omega), fold_low ⟨a, b⟩]
    by_cases a1 : s > 65535
    · rw [step 7 s h0 h1 a1, ← fold_step a1]
      generalize hs : s / 65536 + s % 65536 = s1
      have b1 : 0 ≤ s1 ∧ s1 < 4295032832 := by omega
      by_cases a2 : s1 > 65535
      · rw [step 6 s1 (by omega) (by omega) a2, ← fold_step a2]
        generalize hs2 : s1 / 65536 + s1 % 65536 = s2
        have b2 : 0 ≤ s2 ∧ s2 < 196608 := by omega
        by_cases a3 : s2 > 65535
        · rw [step 5 s2 (by omega) (by omega) a3, ← fold_step a3]
          generalize hs3 : s2 / 65536 + s2 % 65536 = s3
          have b3 : 0 ≤ s3 ∧ s3 < 65540 := by omega
          by_cases a4 : s3 > 65535
          · rw [step 4 s3 (by omega) (by omega) a4, ← fold_step a4]
            exact stop 3 _ (by omega) (by omega)
          · exact stop 4 _ (by omega) (by omega)
        · exact stop 5 _ (by omega) (by omega)
      · exact stop 6 _ (by omega) (by omega)
    · exact stop 7 _ (by omega) (by omega)
  exact at_rounds (fun k => impl_carried.mono s k) hk h8

/-! ### implsum -/
theorem isum_l (l : List Int) (hb : Bs l) (hn : l.length ≤ 1048576) (d : Nat) : ∀ (k i : Nat) (s : Int), i + d = l.length → d + 8 < k → 0 ≤ s → s + 65280 * (d : Int) < 281474976710656 → impl_Checksum.l0 k s l (l.length : Int) (i : Int) = some (65535 - fold (s + wsp (i % 2 == 0) (l.drop i))) := by
  induction d with
  | zero =>
    intro k i s hi hk h0 h1
    obtain ⟨k, rfl⟩ : ∃ m, k = m + 1 := ⟨k - 1, by omega⟩
    simp only [impl_Checksum.l0]
    rw [if_neg (by omega), List.drop_eq_nil_of_le (by omega), carried_f h0 (by omega) (by omega)]
    have e : ∀ b, wsp b [] = 0 := fun b => by cases b <;> rfl
    rw [e]
    simp only [Option.bind_some, Int.add_zero]
    have fl := fold_le s h0
    rw [not_u64 _ fl.1 (by omega), u64_65535 _ (by omega) (by omega), wr64 (by omega)]
    congr 1
    omega
  | succ d ih =>
    intro k i s hi hk h0 h1
    obtain ⟨k, rfl⟩ : ∃ m, k = m + 1 := ⟨k - 1, by omega⟩
    have c1 : i < l.length := by omega
    have b1 := hb.get c1
    simp only [impl_Checksum.l0]
    rw [if_pos (by omega), if_pos (by omega), if_pos (by omega), rd_at c1, tm_pos _ (by omega), wr_succ c1 (by omega), drop_cons c1, wrap_u64 l[i], Int.emod_eq_of_lt b1.1 (by omega)]
    by_cases c2 : i % 2 = 0
    · rw [if_pos (by omega), wrap_u64 (l[i] * 256), Int.emod_eq_of_lt (by omega) (by omega), wrap_u64, Int.emod_eq_of_lt (by omega) (by omega), ih k (i + 1) _ (by omega) (by omega) (by omega) (by omega)]
      rw [show (i % 2 == 0) = true from by simp [c2], show ((i + 1) % 2 == 0) = false from by simp; omega]
      simp only [wsp]
      congr 3
      omega
    · rw [if_neg (by omega), wrap_u64, Int.emod_eq_of_lt (by omega) (by omega), ih k (i + 1) _ (by omega) (by omega) (by omega) (by omega)]
      rw [show (i % 2 == 0) = false from by simp; omega, show ((i + 1) % 2 == 0) = true from by simp; omega]
      simp only [wsp]
      congr 3
      omega
theorem icheck_f {l : List Int} (hb : Bs l) (hn : l.length ≤ 1048576) {k : Nat} (hk : l.length + 8 < k) : impl_Checksum.f k l = some (csum l) := by
  unfold impl_Checksum.f
  have h := isum_l l hb hn l.length k 0 0 (by omega) hk (by omega) (by omega)
  rw [show ((0 : Nat) : Int) = 0 from rfl] at h
  rw [h]
  simp only [List.drop_zero, Int.zero_add]
  rfl

/-! ### implput -/
theorem iput_l (v : Int) (n : Nat) : ∀ (k : Nat) (x : List Int), n ≤ 8 → x.length + n ≤ 1048576 → n < k → impl_put.l0 k x v ((n : Int) - 1) = some (x ++ be n v) := by
  induction n with
  | zero =>
    intro k x hn hx hk
    obtain ⟨k, rfl⟩ : ∃ m, k = m + 1 := ⟨k - 1, by omega⟩
    simp only [impl_put.l0]
    rw [if_neg (by omega)]
    simp [be]
  | succ n ih =>
    intro k x hn hx hk
    obtain ⟨k, rfl⟩ : ∃ m, k = m + 1 := ⟨k - 1, by omega⟩
    simp only [impl_put.l0]
    have h8 : wrap64 (8 * (((n + 1 : Nat) : Int) - 1)) = ((8 * n : Nat) : Int) := by
      rw [wr64 (by omega)]
      omega
    rw [if_pos (by omega), h8, if_pos (by omega), if_pos (by omega), wr64 (by omega), show ((n + 1 : Nat) : Int) - 1 - 1 = (n : Int) - 1 from by omega]
    rw [ih k _ (by omega) (by simp; omega) (by omega)]
    unfold shr
    rw [show min ((8 * n : Nat) : Int).toNat IntKind.u64.bits = 8 * n from by rw [Int.toNat_natCast]; show min (8 * n) 64 = 8 * n; omega]
    have hw : IntKind.u64.wrap v = v % 18446744073709551616 := by simp [IntKind.wrap, IntKind.bits, IntKind.signed]
    have hb : v % 18446744073709551616 / 2 ^ (8 * n) % 256 = v / 2 ^ (8 * n) % 256 := by
      rcases (show n = 0 ∨ n = 1 ∨ n = 2 ∨ n = 3 ∨ n = 4 ∨ n = 5 ∨ n = 6 ∨ n = 7 by omega) with rfl | rfl | rfl | rfl | rfl | rfl | rfl | rfl <;> simp <;> omega
    rw [hw, hb]
    simp [be, List.append_assoc]
theorem iput_f {l : List Int} {v : Int} {n : Nat} (hn : n ≤ 8) (hl : l.length + n ≤ 1048576) {k : Nat} (hk : n < k) : impl_put.f k l (n : Int) v = some (l ++ be n v) := by
  unfold impl_put.f
  rw [wr64 (by omega), iput_l v n k l hn hl hk]

/-! ### ipimpl -/
theorem or_i64 (a b : Nat) (ha : a < 2 ^ 63) (hb : b < 2 ^ 63) : Go.bits .or .i64 (a : Int) (b : Int) = ((a ||| b : Nat) : Int) := (bits_nat .i64 63 (by decide) wraps_i64 a b ha hb).2
theorem or_low (n b a : Nat) (hn : n ≤ 20) (hb : b < 2 ^ 20) (ha : a < 2 ^ n) : Go.bits .or .i64 (a : Int) ((2 ^ n * b : Nat) : Int) = (a : Int) + ((2 ^ n * b : Nat) : Int) := by
  have h1 : 2 ^ n ≤ 2 ^ 20 := Nat.pow_le_pow_right (by decide) hn
  have h2 : 2 ^ n * b ≤ 2 ^ 20 * 2 ^ 20 := Nat.mul_le_mul h1 (by omega)
  rw [or_i64 _ _ (by omega) (by omega), Nat.or_comm, ← Nat.two_pow_add_eq_or_of_lt ha]
  omega

/-! ### iphead -/
theorem ihj1_f (tos id : Int) (df mf : Bool) (off ttl proto src dst : Int) {o p : List Int} (ho : o.length ≤ 40) (hb : Bs o) {k : Nat} (hk : 200 ≤ k) (tos' id' : Int) (df' mf' : Bool) (off' : Int) : impl_headIP.j1 (k + 1) ([(64 + (20 + (o.length : Int)) / 4) % 256, tos % 256] ++ be 2 (20 + (o.length : Int) + (p.length : Int)) ++ be 2 id) (flg df mf off) tos' id' df' mf' off' ttl proto src dst o p = some (iout (ihead tos id df mf off ttl proto src dst o p)) := by
  have hl := ihead_len tos id df mf off ttl proto src dst o p
  rw [impl_headIP.j1]
  rw [show impl_put.f k ([(64 + (20 + (o.length : Int)) / 4) % 256, tos % 256] ++ be 2 (20 + (o.length : Int) + (p.length : Int)) ++ be 2 id) 2 (flg df mf off) = some _ from iput_f (n := 2) (by omega) (by simp [be_len]) (by omega)]
  simp only [Option.bind_some]
  rw [if_pos (by simp [be_len])]
  rw [show ∀ l, impl_put.f k l 4 src = impl_put.f k l ((4 : Nat) : Int) src from fun _ => rfl, iput_f (n := 4) (by omega) (by simp [be_len]) (by omega)]
  simp only [Option.bind_some]
  rw [show ∀ l, impl_put.f k l 4 dst = impl_put.f k l ((4 : Nat) : Int) dst from fun _ => rfl, iput_f (n := 4) (by omega) (by simp [be_len]) (by omega)]
  simp only [Option.bind_some]
  rw [if_pos (by simp [be_len]; omega)]
  rw [show [(64 + (20 + (o.length : Int)) / 4) % 256, tos % 256] ++ be 2 (20 + (o.length : Int) + (p.length : Int)) ++ be 2 id ++ be 2 (flg df mf off) ++ [ttl % 256, proto % 256, 0, 0] ++ be 4 src ++ be 4 dst ++ o = ihead tos id df mf off ttl proto src dst o p from rfl, icheck_f (ihead_bytes _ _ _ _ _ _ _ _ _ _ hb) (by omega) (by omega)]
  simp only [Option.bind_some]
  rw [if_pos (by omega), if_pos (by omega)]
  rfl
theorem ihead_f (tos id : Int) (df mf : Bool) {off : Int} (ttl proto src dst : Int) {o p : List Int} (hoff : 0 ≤ off ∧ off ≤ 65528) (ho : o.length ≤ 40) (hb : Bs o) (hp : p.length ≤ 1048576) {k : Nat} (hk : 200 ≤ k) : impl_headIP.f (k + 1 + 1) tos id df mf off ttl proto src dst o p = some (iout (ihead tos id df mf off ttl proto src dst o p)) := by
  unfold impl_headIP.f
  rw [wr64 (a := 20 + (o.length : Int)) (by omega), wr64 (a := 20 + (o.length : Int) + (p.length : Int)) (by omega), td_pos (a := 20 + (o.length : Int)) 4 (by omega), wr64 (a := (20 + (o.length : Int)) / 4) (by omega), wr64 (a := 64 + (20 + (o.length : Int)) / 4) (by omega), td_pos _ hoff.1, wr64 (a := off / 8) (by omega)]
  rw [show ∀ l v, impl_put.f (k + 1 + 1) l 2 v = impl_put.f (k + 1 + 1) l ((2 : Nat) : Int) v from fun _ _ => rfl, iput_f (n := 2) (by omega) (by simp) (by omega)]
  simp only [Option.bind_some]
  rw [show ∀ l v, impl_put.f (k + 1 + 1) l 2 v = impl_put.f (k + 1 + 1) l ((2 : Nat) : Int) v from fun _ _ => rfl, iput_f (n := 2) (by omega) (by simp [be_len]) (by omega)]
  simp only [Option.bind_some]
  obtain ⟨y, hy⟩ : ∃ y : Nat, off / 8 = (y : Int) := ⟨(off / 8).toNat, by omega⟩
  have hy2 : y < 8192 := by omega
  have hA : Go.bits .or .i64 (off / 8) 16384 = 16384 + off / 8 := by rw [hy]; have := or_low 13 2 y (by decide) (by decide) (by omega); simp only [Nat.reducePow, Nat.reduceMul] at this; rw [show (16384 : Int) = ((16384 : Nat) : Int) from rfl, this]; omega
  have hB : Go.bits .or .i64 (off / 8) 8192 = 8192 + off / 8 := by rw [hy]; have := or_low 13 1 y (by decide) (by decide) (by omega); simp only [Nat.reducePow, Nat.reduceMul] at this; rw [show (8192 : Int) = ((8192 : Nat) : Int) from rfl, this]; omega
  have hC : Go.bits .or .i64 (16384 + off / 8) 8192 = 16384 + 8192 + off / 8 := by
    rw [← hA, hy]
    rw [show (16384 : Int) = ((16384 : Nat) : Int) from rfl, show (8192 : Int) = ((8192 : Nat) : Int) from rfl, or_i64 _ _ (by omega) (by decide), or_i64 _ _ (Nat.or_lt_two_pow (by omega) (by decide)) (by decide), Nat.or_assoc, show (16384 ||| 8192 : Nat) = 2 ^ 13 * 3 from by decide, Nat.or_comm, ← Nat.two_pow_add_eq_or_of_lt (by omega)]
    omega
  have go : ∀ q, q = flg df mf off → impl_headIP.j1 (k + 1) ([(64 + (20 + (o.length : Int)) / 4) % 256, tos % 256] ++ be 2 (20 + (o.length : Int) + (p.length : Int)) ++ be 2 id) q tos id df mf off ttl proto src dst o p = some (iout (ihead tos id df mf off ttl proto src dst o p)) := by
    intro q hq
    rw [hq]
    exact ihj1_f tos id df mf off ttl proto src dst ho hb hk _ _ _ _ _
  cases df <;> cases mf <;> simp only [if_true, if_false, Bool.false_eq_true, impl_headIP.j0] <;> refine go _ ?_ <;> simp only [flg, if_true, if_false, Bool.false_eq_true, hA, hB, hC] <;> omega

/-! ### maycomplain -/
theorem mc_same (tos id : Int) (df mf : Bool) (off ttl proto src dst : Int) {o p : List Int} (hb : Bs o) (ho : o.length ≤ 1048576) (hp : p.length ≤ 1048576) : ∃ r, ∀ k, p.length + 301 ≤ k → spec_MayComplain.f k tos id df mf off ttl proto src dst o p = some r ∧ impl_MayComplain.f tos id df mf off ttl proto src dst o p = some r := by
  have tail : ∀ k, spec_MayComplain.j0 (k + 1) true tos id df mf off ttl proto src dst o p = some false := fun k => by rw [spec_MayComplain.j0]; rfl
  have main : ∀ b : Bool, ∃ r, ∀ k, p.length + 301 ≤ k → spec_MayComplain.j0 k b tos id df mf off ttl proto src dst o p = some r ∧ (if b = true then some false else (if proto = 1 then (if (p.length : Int) > 0 then (if 0 < (p.length : Int) then (if (rd p 0) = 8 then (some true) else (some ((rd p 0) == 0))) else (none)) else (some false)) else (some true))) = some r := by
    intro b
    cases b with
    | true => exact ⟨false, fun k hk => by obtain ⟨k, rfl⟩ : ∃ m, k = m + 1 := ⟨k - 1, by omega⟩; exact ⟨tail k, rfl⟩⟩
    | false =>
      have : ∃ r, (if proto = 1 then (if (p.length : Int) > 0 then (if 0 < (p.length : Int) then (if (rd p 0) = 8 then (some true) else (some ((rd p 0) == 0))) else (none)) else (some false)) else (some true)) = some r := by
        by_cases h1 : proto = 1
        · by_cases h2 : (p.length : Int) > 0
          · by_cases h3 : rd p 0 = 8
            · exact ⟨_, by rw [if_pos h1, if_pos h2, if_pos h2, if_pos h3]⟩
            · exact ⟨_, by rw [if_pos h1, if_pos h2, if_pos h2, if_neg h3]⟩
          · exact ⟨_, by rw [if_pos h1, if_neg h2]⟩
        · exact ⟨_, by rw [if_neg h1]⟩
      obtain ⟨r, hr⟩ := this
      refine ⟨r, fun k hk => ?_⟩
      obtain ⟨k, rfl⟩ : ∃ m, k = m + 1 := ⟨k - 1, by omega⟩
      exact ⟨by rw [spec_MayComplain.j0]; exact hr, hr⟩
  have hs : ∀ k, p.length + 301 ≤ k → spec_EncodeIP.f k tos id df mf off ttl proto src dst o p = some (iall tos id df mf off ttl proto src dst o p) := fun k hk => sip_f tos id df mf off ttl proto src dst hb ho hp (by omega)
  have h2 : (iall tos id df mf off ttl proto src dst o p).2 = icode tos id off ttl proto src dst o p := by
    unfold iall
    split
    · rename_i h; exact h.symm
    · rfl
  have start : ∀ k, p.length + 301 ≤ k → spec_MayComplain.f k tos id df mf off ttl proto src dst o p = (if icode tos id off ttl proto src dst o p = 0 then (if off = 0 then ((impl_AddrKind.f src).bind fun t198 => (if t198 = 6 then ((impl_AddrKind.f dst).bind fun t199 => (spec_MayComplain.j0 k (t199 != 6) tos id df mf off ttl proto src dst o p)) else (spec_MayComplain.j0 k true tos id df mf off ttl proto src dst o p))) else (spec_MayComplain.j0 k true tos id df mf off ttl proto src dst o p)) else (spec_MayComplain.j0 k true tos id df mf off ttl proto src dst o p)) := by
    intro k hk
    unfold spec_MayComplain.f
    rw [hs k hk, kind_eq, kind_eq]
    simp only [Option.bind_some]
    rw [h2]
  obtain ⟨q1, hq1⟩ := kind_some src
  obtain ⟨q2, hq2⟩ := kind_some dst
  have no : ∀ k, p.length + 301 ≤ k → spec_MayComplain.j0 k true tos id df mf off ttl proto src dst o p = some false := by
    intro k hk
    obtain ⟨k, rfl⟩ : ∃ m, k = m + 1 := ⟨k - 1, by omega⟩
    exact tail k
  have hi : impl_MayComplain.f tos id df mf off ttl proto src dst o p = (if icode tos id off ttl proto src dst o p = 0 then (if off = 0 then (if q1 = 6 then (if (q2 != 6) = true then some false else (if proto = 1 then (if (p.length : Int) > 0 then (if 0 < (p.length : Int) then (if (rd p 0) = 8 then (some true) else (some ((rd p 0) == 0))) else (none)) else (some false)) else (some true))) else some false) else some false) else some false) := by
    unfold impl_MayComplain.f
    rw [icodeIP_f _ _ _ _ _ _ _ _ _ ho hp, hq1, hq2]
    simp only [Option.bind_some, bne_iff_ne, ne_eq, ite_not]
  rw [hi]
  by_cases c1 : icode tos id off ttl proto src dst o p = 0
  · by_cases c2 : off = 0
    · by_cases c3 : q1 = 6
      · obtain ⟨r, hr⟩ := main (q2 != 6)
        refine ⟨r, fun k hk => ?_⟩
        rw [start k hk, hq1, hq2]
        simp only [Option.bind_some]
        rw [if_pos c1, if_pos c2, if_pos c3, if_pos c1, if_pos c2, if_pos c3]
        exact hr k hk
      · refine ⟨false, fun k hk => ?_⟩
        rw [start k hk, hq1]
        simp only [Option.bind_some]
        rw [if_pos c1, if_pos c2, if_neg c3, if_pos c1, if_pos c2, if_neg c3]
        exact ⟨no k hk, rfl⟩
    · refine ⟨false, fun k hk => ?_⟩
      rw [start k hk]
      rw [if_pos c1, if_neg c2, if_pos c1, if_neg c2]
      exact ⟨no k hk, rfl⟩
  · refine ⟨false, fun k hk => ?_⟩
    rw [start k hk]
    rw [if_neg c1, if_neg c1]
    exact ⟨no k hk, rfl⟩

/-! ### icmpenc -/
def okM (a b c : Int) : Prop := (0 ≤ a ∧ a ≤ 255) ∧ (0 ≤ b ∧ b ≤ 255) ∧ (0 ≤ c ∧ c ≤ 4294967295)
instance (a b c : Int) : Decidable (okM a b c) := by unfold okM; exact inferInstance
def mb (a b c : Int) (l : List Int) : List Int := [a % 256, b % 256, 0, 0] ++ be 4 c ++ l
theorem mb_len (a b c : Int) (l : List Int) : (mb a b c l).length = 8 + l.length := by
  simp [mb, be_len]
  omega
theorem mb_bytes (a b c : Int) {l : List Int} (h : Bs l) : Bs (mb a b c l) := by
  unfold mb
  refine Bs.append (Bs.append ?_ (be_bytes _ _)) h
  intro x hx
  simp only [List.mem_cons, List.not_mem_nil, or_false] at hx
  rcases hx with rfl | rfl | rfl | rfl <;> omega
def mo (g : List Int) : List Int := (g.set (2 : Int).toNat ((csum g / 256) % 256)).set (3 : Int).toNat (csum g % 256)
theorem mo_len (g : List Int) : (mo g).length = g.length := by simp [mo]
def mall (a b c : Int) (l : List Int) : List Int × Int := if okM a b c then (if (l.length : Int) > 65000 then ([], 7) else (mo (mb a b c l), 0)) else ([], 1)
theorem mall_len (a b c : Int) (l : List Int) : (mall a b c l).1.length ≤ 65535 := by
  unfold mall
  split
  · split
    · simp
    · simp only [mo_len, mb_len]
      omega
  · simp
theorem tail_m (g : List Int) (c : Int) (h : 4 ≤ g.length) : (if 2 < (g.length : Int) then (if 3 < (g.length : Int) then (some (((g.set (2 : Int).toNat ((c / 256) % 256)).set (3 : Int).toNat ((c) % 256)), (0 : Int))) else (none)) else (none)) = some ((g.set (2 : Int).toNat ((c / 256) % 256)).set (3 : Int).toNat (c % 256), (0 : Int)) := by
  rw [if_pos (show (2 : Int) < (g.length : Int) by omega), if_pos (show (3 : Int) < (g.length : Int) by omega)]
theorem smj_f (a b c : Int) {l : List Int} (hb : Bs l) (hl : l.length ≤ 1048576) {k : Nat} (hk : l.length + 100 ≤ k) : spec_EncodeIcmp.j0 (k + 1) false a b c l = some (if (l.length : Int) > 65000 then ([], 7) else (mo (mb a b c l), 0)) := by
  rw [spec_EncodeIcmp.j0, if_neg (by simp)]
  by_cases h : (l.length : Int) > 65000
  · rw [if_pos h, if_pos h]
  · rw [if_neg h, if_neg h]
    have hm := mb_len a b c l
    have hmb := mb_bytes a b c hb
    rw [show spec_l03Put.f k c 4 = some (be 4 c) from sput_f (n := 4) (by omega) (by omega), Option.bind_some]
    rw [join_f (by simp) (by simp [be_len]) (by simp <;> omega) (by simp [be_len] <;> omega), Option.bind_some]
    rw [join_f (by simp [be_len]) (by omega) (by simp [be_len] <;> omega) (by omega), Option.bind_some]
    rw [show [a % 256, b % 256, 0, 0] ++ be 4 c ++ l = mb a b c l from rfl]
    unfold mo
    generalize mb a b c l = g at hm hmb ⊢
    rw [scheck_f hmb (by omega) (by omega), Option.bind_some]
    exact tail_m g _ (by omega)
theorem imj_f (a b c : Int) {l : List Int} (hb : Bs l) (hl : l.length ≤ 1048576) {k : Nat} (hk : l.length + 100 ≤ k) : impl_EncodeIcmp.j0 (k + 1) false a b c l = some (if (l.length : Int) > 65000 then ([], 7) else (mo (mb a b c l), 0)) := by
  rw [impl_EncodeIcmp.j0, if_neg (by simp)]
  by_cases h : (l.length : Int) > 65000
  · rw [if_pos h, if_pos h]
  · rw [if_neg h, if_neg h]
    have hm := mb_len a b c l
    have hmb := mb_bytes a b c hb
    rw [show impl_put.f k [a % 256, b % 256, 0, 0] 4 c = some ([a % 256, b % 256, 0, 0] ++ be 4 c) from iput_f (n := 4) (by omega) (by simp) (by omega), Option.bind_some]
    rw [if_pos (by simp [be_len]; omega), Option.bind_some]
    rw [show [a % 256, b % 256, 0, 0] ++ be 4 c ++ l = mb a b c l from rfl]
    unfold mo
    generalize mb a b c l = g at hm hmb ⊢
    rw [icheck_f hmb (by omega) (by omega), Option.bind_some]
    exact tail_m g _ (by omega)
theorem bad_m (a b c : Int) (l : List Int) (k : Nat) : spec_EncodeIcmp.j0 (k + 1) true a b c l = some ([], 1) ∧ impl_EncodeIcmp.j0 (k + 1) true a b c l = some ([], 1) := ⟨by rw [spec_EncodeIcmp.j0]; rfl, by rw [impl_EncodeIcmp.j0]; rfl⟩
theorem icmp_f (a b c : Int) {l : List Int} (hb : Bs l) (hl : l.length ≤ 1048576) {k : Nat} (hk : l.length + 101 ≤ k) : spec_EncodeIcmp.f k a b c l = some (mall a b c l) ∧ impl_EncodeIcmp.f k a b c l = some (mall a b c l) := by
  obtain ⟨k, rfl⟩ : ∃ m, k = m + 1 := ⟨k - 1, by omega⟩
  obtain ⟨b1, b2⟩ := bad_m a b c l k
  unfold spec_EncodeIcmp.f impl_EncodeIcmp.f mall
  simp only [in_f, Option.bind_some, decide_eq_true_eq]
  by_cases ha : 0 ≤ a ∧ a ≤ 255
  · rw [if_pos ha, if_neg (show ¬ a < 0 by omega), if_neg (show ¬ a > 255 by omega)]
    by_cases hb2 : 0 ≤ b ∧ b ≤ 255
    · rw [if_pos hb2, if_neg (show ¬ b < 0 by omega), if_neg (show ¬ b > 255 by omega)]
      by_cases hc : 0 ≤ c ∧ c ≤ 4294967295
      · rw [if_neg (show ¬ c < 0 by omega), decide_eq_true hc, decide_eq_false (show ¬ c > 4294967295 by omega), if_pos (show okM a b c from ⟨ha, hb2, hc⟩)]
        exact ⟨smj_f a b c hb hl (by omega), imj_f a b c hb hl (by omega)⟩
      · rw [decide_eq_false hc, if_neg (show ¬ okM a b c from fun h => hc h.2.2)]
        refine ⟨b1, ?_⟩
        by_cases h1 : c < 0
        · rw [if_pos h1]; exact b2
        · rw [if_neg h1, decide_eq_true (show c > 4294967295 by omega)]; exact b2
    · rw [if_neg hb2, if_neg (show ¬ okM a b c from fun h => hb2 h.2.1)]
      refine ⟨b1, ?_⟩
      by_cases h1 : b < 0
      · rw [if_pos h1]; exact b2
      · rw [if_neg h1, if_pos (show b > 255 by omega)]; exact b2
  · rw [if_neg ha, if_neg (show ¬ okM a b c from fun h => ha h.1)]
    refine ⟨b1, ?_⟩
    by_cases h1 : a < 0
    · rw [if_pos h1]; exact b2
    · rw [if_neg h1, if_pos (show a > 255 by omega)]; exact b2

/-! ### dz -/
abbrev DR := Int × Int × Bool × Bool × Int × Int × Int × Int × Int × List Int × List Int × Int
def dz (c : Int) : DR := (0, 0, false, false, 0, 0, 0, 0, 0, [], [], c)

/-! ### the law -/
theorem mc_code {tos id : Int} {df mf : Bool} {off ttl proto src dst : Int} {o p : List Int} (ho : o.length ≤ 1048576) (hp : p.length ≤ 1048576) (h : impl_MayComplain.f tos id df mf off ttl proto src dst o p = some true) : icode tos id off ttl proto src dst o p = 0 := by
  unfold impl_MayComplain.f at h
  rw [icodeIP_f _ _ _ _ _ _ _ _ _ ho hp, Option.bind_some] at h
  by_cases c : icode tos id off ttl proto src dst o p = 0
  · exact c
  · rw [if_neg c] at h
    cases h
/-- What stands in a complaint of a packet. -/
def cbody (tos id : Int) (df mf : Bool) (off ttl proto src dst : Int) (o p : List Int) : List Int := iout (ihead tos id df mf off ttl proto src dst o p) ++ p.take 8
theorem cbody_len (tos id : Int) (df mf : Bool) (off ttl proto src dst : Int) (o p : List Int) : (cbody tos id df mf off ttl proto src dst o p).length ≤ 28 + o.length := by
  simp only [cbody, List.length_append, iout_len, ihead_len, List.length_take]
  omega
theorem iout_bytes {h : List Int} (hb : Bs h) : Bs (iout h) := by
  intro x hx
  unfold iout at hx
  rcases List.mem_or_eq_of_mem_set hx with hx | rfl
  · rcases List.mem_or_eq_of_mem_set hx with hx | rfl
    · exact hb x hx
    · omega
  · omega
theorem cbody_bytes (tos id : Int) (df mf : Bool) (off ttl proto src dst : Int) {o p : List Int} (ho : Bs o) (hp : Bs p) : Bs (cbody tos id df mf off ttl proto src dst o p) :=
  (iout_bytes (ihead_bytes _ _ _ _ _ _ _ _ _ _ ho)).append (hp.take 8)
def cfull (src from_ kind code rest : Int) (b : List Int) : DR := (0, 0, false, false, 0, 64, 1, from_, src, [], (mall kind code rest b).1, 0)
theorem scj_f {tos id : Int} {df mf : Bool} {off ttl proto src dst : Int} {o p : List Int} (ho : Bs o) (hp : Bs p) (hpl : p.length ≤ 1048576) (hc : icode tos id off ttl proto src dst o p = 0) (a1 a2 a3 a4 : Int) {k : Nat} (hk : p.length + 400 ≤ k) : spec_Complain.j0 (k + 1) a1 a2 a3 a4 false tos id df mf off ttl proto src dst o p = some (cfull src a1 a2 a3 a4 (cbody tos id df mf off ttl proto src dst o p)) := by
  obtain ⟨h1, h2, h3⟩ := icode_zero hc
  unfold okI at h1
  have hl := ihead_len tos id df mf off ttl proto src dst o p
  have hbb := cbody_bytes tos id df mf off ttl proto src dst ho hp
  have hbl := cbody_len tos id df mf off ttl proto src dst o p
  have ei : iall tos id df mf off ttl proto src dst o p = (iout (ihead tos id df mf off ttl proto src dst o p) ++ p, 0) := by unfold iall; rw [if_pos hc]
  rw [spec_Complain.j0, if_neg (by simp), sip_f tos id df mf off ttl proto src dst ho (by omega) hpl (by omega), ei, Option.bind_some]
  have hlen : (iout (ihead tos id df mf off ttl proto src dst o p) ++ p).length = 20 + o.length + p.length := by rw [List.length_append, iout_len, hl]
  have ecut : (iout (ihead tos id df mf off ttl proto src dst o p) ++ p).take (28 + o.length) = cbody tos id df mf off ttl proto src dst o p := by
    rw [List.take_append, List.take_of_length_le (by rw [iout_len, hl]; omega), iout_len, hl, show 28 + o.length - (20 + o.length) = 8 by omega]
    rfl
  generalize hX : iout (ihead tos id df mf off ttl proto src dst o p) ++ p = X at hlen ecut
  show (if (wrap64 (28 + (o.length : Int))) > (X.length : Int) then (if 0 ≤ (X.length : Int) then (if (X.length : Int) ≤ (X.length : Int) then ((spec_EncodeIcmp.f k a2 a3 a4 (X.take ((X.length : Int) : Int).toNat)).bind fun bt253 => (some (0, 0, false, false, 0, 64, 1, a1, src, ([] : List Int), bt253.1, 0))) else (none)) else (none)) else (if 0 ≤ (wrap64 (28 + (o.length : Int))) then (if (wrap64 (28 + (o.length : Int))) ≤ (X.length : Int) then ((spec_EncodeIcmp.f k a2 a3 a4 (X.take ((wrap64 (28 + (o.length : Int))) : Int).toNat)).bind fun bt261 => (some (0, 0, false, false, 0, 64, 1, a1, src, ([] : List Int), bt261.1, 0))) else (none)) else (none))) = _
  rw [wr64 (a := 28 + (o.length : Int)) (by omega), hlen]
  by_cases c : 28 + (o.length : Int) > ((20 + o.length + p.length : Nat) : Int)
  · rw [if_pos c, if_pos (by omega), if_pos (by omega), Int.toNat_natCast, show X.take (20 + o.length + p.length) = cbody tos id df mf off ttl proto src dst o p from by rw [← ecut, List.take_of_length_le (by omega), List.take_of_length_le (by omega)]]
    rw [(icmp_f a2 a3 a4 hbb (by omega) (by omega)).1]
    rfl
  · rw [if_neg c, if_pos (by omega), if_pos (by omega), show (28 + (o.length : Int)).toNat = 28 + o.length by omega, ecut]
    rw [(icmp_f a2 a3 a4 hbb (by omega) (by omega)).1]
    rfl
theorem icj_f {tos id : Int} {df mf : Bool} {off ttl proto src dst : Int} {o p : List Int} (ho : Bs o) (hp : Bs p) (hpl : p.length ≤ 1048576) (hc : icode tos id off ttl proto src dst o p = 0) (a1 a2 a3 a4 : Int) {k : Nat} (hk : p.length + 400 ≤ k) : impl_Complain.j0 (k + 1) a1 a2 a3 a4 false tos id df mf off ttl proto src dst o p = some (cfull src a1 a2 a3 a4 (cbody tos id df mf off ttl proto src dst o p)) := by
  obtain ⟨h1, h2, h3⟩ := icode_zero hc
  unfold okI at h1
  have hl := ihead_len tos id df mf off ttl proto src dst o p
  have hbb := cbody_bytes tos id df mf off ttl proto src dst ho hp
  have hbl := cbody_len tos id df mf off ttl proto src dst o p
  have hH : impl_headIP.f k tos id df mf off ttl proto src dst o p = some (iout (ihead tos id df mf off ttl proto src dst o p)) := by
    obtain ⟨j, rfl⟩ : ∃ m, k = m + 1 + 1 := ⟨k - 2, by omega⟩
    exact ihead_f tos id df mf ttl proto src dst (by omega) (by omega) ho hpl (by omega)
  have hmn : mn 8 (p.length : Int) = ((min 8 p.length : Nat) : Int) := by unfold mn; omega
  have ht : p.take (min 8 p.length) = p.take 8 := by
    by_cases c : p.length ≤ 8
    · rw [List.take_of_length_le (by omega), List.take_of_length_le c]
    · rw [show min 8 p.length = 8 by omega]
  rw [impl_Complain.j0, if_neg (by simp), hH]
  simp only [Option.bind_some]
  rw [hmn, if_pos (by omega), if_pos (by omega), Int.toNat_natCast, ht, if_pos (by rw [iout_len, hl, List.length_take]; omega)]
  rw [show iout (ihead tos id df mf off ttl proto src dst o p) ++ p.take 8 = cbody tos id df mf off ttl proto src dst o p from rfl, (icmp_f a2 a3 a4 hbb (by omega) (by omega)).2]
  rfl
theorem bad_c (tos id : Int) (df mf : Bool) (off ttl proto src dst : Int) (o p : List Int) (a1 a2 a3 a4 : Int) (k : Nat) : spec_Complain.j0 (k + 1) a1 a2 a3 a4 true tos id df mf off ttl proto src dst o p = some (dz 1) ∧ impl_Complain.j0 (k + 1) a1 a2 a3 a4 true tos id df mf off ttl proto src dst o p = some (dz 1) := ⟨by rw [spec_Complain.j0]; rfl, by rw [impl_Complain.j0]; rfl⟩
theorem comp_same (tos id : Int) (df mf : Bool) (off ttl proto src dst : Int) {o p : List Int} (ho : Bs o) (hp : Bs p) (hol : o.length ≤ 1048576) (hpl : p.length ≤ 1048576) (a1 a2 a3 a4 : Int) : ∃ R : DR, (R = dz 1 ∨ ∃ b, R = cfull src a1 a2 a3 a4 b) ∧ ∀ k, p.length + 500 ≤ k → spec_Complain.f k tos id df mf off ttl proto src dst o p a1 a2 a3 a4 = some R ∧ impl_Complain.f k tos id df mf off ttl proto src dst o p a1 a2 a3 a4 = some R := by
  obtain ⟨r, hr⟩ := mc_same tos id df mf off ttl proto src dst ho hol hpl
  by_cases hg : r = true ∧ (0 ≤ a1 ∧ a1 ≤ 4294967295) ∧ (a2 = 3 ∨ a2 = 11) ∧ (0 ≤ a3 ∧ a3 ≤ 255) ∧ (0 ≤ a4 ∧ a4 ≤ 4294967295)
  · obtain ⟨rfl, g1, g2, g3, g4⟩ := hg
    have hc := mc_code hol hpl (hr (p.length + 301) (by omega)).2
    refine ⟨cfull src a1 a2 a3 a4 (cbody tos id df mf off ttl proto src dst o p), Or.inr ⟨_, rfl⟩, fun k hk => ?_⟩
    obtain ⟨k, rfl⟩ : ∃ m, k = m + 1 := ⟨k - 1, by omega⟩
    have s := scj_f (df := df) (mf := mf) ho hp hpl hc a1 a2 a3 a4 (k := k) (by omega)
    have i := icj_f (df := df) (mf := mf) ho hp hpl hc a1 a2 a3 a4 (k := k) (by omega)
    unfold spec_Complain.f impl_Complain.f
    rw [(hr (k + 1) (by omega)).1, (hr (k + 1) (by omega)).2]
    simp only [Option.bind_some, if_true, in_f, addrOK_f, isAddr_f, g1, g3, g4, and_self, decide_true, Bool.not_true]
    rw [if_neg (show ¬ a3 < 0 by omega), if_neg (show ¬ a3 > 255 by omega), if_neg (show ¬ a4 < 0 by omega), decide_eq_false (show ¬ a4 > 4294967295 by omega)]
    refine ⟨?_, ?_⟩
    · by_cases e : a2 = 3
      · rw [if_pos e]; exact s
      · rw [if_neg e, if_pos (by omega)]; exact s
    · by_cases e : a2 = 3
      · rw [if_pos e]; exact i
      · rw [if_neg e, if_pos (by omega)]; exact i
  · refine ⟨dz 1, Or.inl rfl, fun k hk => ?_⟩
    obtain ⟨k, rfl⟩ : ∃ m, k = m + 1 := ⟨k - 1, by omega⟩
    obtain ⟨b1, b2⟩ := bad_c tos id df mf off ttl proto src dst o p a1 a2 a3 a4 k
    unfold spec_Complain.f impl_Complain.f
    rw [(hr (k + 1) (by omega)).1, (hr (k + 1) (by omega)).2]
    simp only [Option.bind_some, in_f, addrOK_f, isAddr_f, decide_eq_true_eq]
    by_cases c0 : r = true
    · rw [if_pos c0, if_pos c0]
      by_cases c1 : 0 ≤ a1 ∧ a1 ≤ 4294967295
      · rw [if_pos c1, if_pos c1]
        by_cases c3 : 0 ≤ a3 ∧ a3 ≤ 255
        · rw [if_pos c3, if_neg (show ¬ a3 < 0 by omega), if_neg (show ¬ a3 > 255 by omega)]
          by_cases c4 : 0 ≤ a4 ∧ a4 ≤ 4294967295
          · have c2 : ¬ (a2 = 3 ∨ a2 = 11) := fun h => hg ⟨c0, c1, h, c3, c4⟩
            rw [if_neg (show ¬ a2 = 3 by omega), if_neg (show ¬ a2 = 11 by omega), if_neg (show ¬ a2 = 3 by omega), if_neg (show ¬ a2 = 11 by omega)]
            exact ⟨b1, b2⟩
          · rw [decide_eq_false c4]
            refine ⟨?_, ?_⟩
            · simp only [Bool.not_false, ite_self]; exact b1
            · by_cases e : a4 < 0
              · simp only [e, if_true, ite_self]; exact b2
              · rw [if_neg e, decide_eq_true (show a4 > 4294967295 by omega)]
                simp only [ite_self]; exact b2
        · rw [if_neg c3]
          refine ⟨?_, ?_⟩
          · simp only [ite_self]; exact b1
          · by_cases e : a3 < 0
            · simp only [e, if_true, ite_self]; exact b2
            · rw [if_neg e, if_pos (show a3 > 255 by omega)]
              simp only [ite_self]; exact b2
      · rw [if_neg c1, if_neg c1]
        exact ⟨b1, b2⟩
    · rw [if_neg c0, if_neg c0]
      exact ⟨b1, b2⟩
theorem FnExactComplain (tos id : Int) (df mf : Bool) (off ttl proto src dst : Int) (o p : List Int) (a1 a2 a3 a4 : Int) (w0 : (Lit.int .i64 tos).wf = true) (w1 : (Lit.int .i64 id).wf = true) (w4 : (Lit.int .i64 off).wf = true) (w5 : (Lit.int .i64 ttl).wf = true) (w6 : (Lit.int .i64 proto).wf = true) (w7 : (Lit.int .i64 src).wf = true) (w8 : (Lit.int .i64 dst).wf = true) (ho : o.length ≤ maxLen) (how : ∀ x ∈ o, (Lit.int .u8 x).wf = true) (hp : p.length ≤ maxLen) (hpw : ∀ x ∈ p, (Lit.int .u8 x).wf = true) (v1 : (Lit.int .i64 a1).wf = true) (v2 : (Lit.int .i64 a2).wf = true) (v3 : (Lit.int .i64 a3).wf = true) (v4 : (Lit.int .i64 a4).wf = true) : ∃ k, laws_FnExactComplain.f k tos id df mf off ttl proto src dst o p a1 a2 a3 a4 = some true := by
  obtain ⟨r, hr, hc⟩ := szP_f tos id df mf off ttl proto src dst o p (len_of ho) (len_of hp)
  by_cases hn : r < 0
  · refine ⟨0, ?_⟩
    unfold laws_FnExactComplain.f
    rw [hr]
    simp only [Option.bind_some]
    rw [if_pos hn]
  · have hc := hc hn
    obtain ⟨R, hR, hs⟩ := comp_same tos id df mf off ttl proto src dst (Bs.of how) (Bs.of hpw) (by omega) (show p.length ≤ 1048576 by omega) a1 a2 a3 a4
    have hlen : R.2.2.2.2.2.2.2.2.2.1.length + R.2.2.2.2.2.2.2.2.2.2.1.length ≤ 65535 := by
      rcases hR with rfl | ⟨b, rfl⟩
      · simp [dz]
      · have := mall_len a2 a3 a4 b
        simpa [cfull] using this
    clear hR
    obtain ⟨Rtos, Rid, Rdf, Rmf, Roff, Rttl, Rproto, Rsrc, Rdst, Ro, Rp, Rc⟩ := R
    have hlen : Ro.length + Rp.length ≤ 65535 := hlen
    obtain ⟨k, hk⟩ : ∃ k, k = o.length + p.length + Ro.length + Rp.length + 600 := ⟨_, rfl⟩
    have hy : ¬ ((1 : Int) + (o.length : Int) + (p.length : Int) < 0) := by omega
    have hz : ¬ ((1 : Int) + (Ro.length : Int) + (Rp.length : Int) < 0) := by omega
    refine ⟨k + 1 + 1 + 1, ?_⟩
    unfold laws_FnExactComplain.f
    rw [hr]
    simp only [Option.bind_some]
    rw [if_neg hn, toP_f _ _ _ _ _ _ _ _ _ o p hc (by omega)]
    simp only [Option.bind_some]
    rw [(hs _ (by omega)).1, (hs _ (by omega)).2]
    simp only [Option.bind_some]
    rw [eqP_same _ _ _ _ _ _ _ _ _ Ro Rp (by omega) (by omega)]
    simp only [Option.bind_some, if_true, bne_self_eq_false]
    rw [laws_FnExactComplain.j0, if_neg (by simp), toP_f _ _ _ _ _ _ _ _ _ o p hc (by omega)]
    simp only [Option.bind_some]
    rw [eqP_same _ _ _ _ _ _ _ _ _ o p (by omega) (by omega)]
    simp only [Option.bind_some, if_true]
    rw [markP_f _ _ _ _ _ _ _ _ _ o p (by omega) (by omega)]
    simp only [Option.bind_some]
    rw [if_neg hy, eqP_same _ _ _ _ _ _ _ _ _ Ro Rp (by omega) (by omega)]
    simp only [Option.bind_some, if_true, bne_self_eq_false]
    rw [laws_FnExactComplain.j1, if_neg (by simp), markP_f _ _ _ _ _ _ _ _ _ Ro Rp (by omega) (by omega)]
    simp only [Option.bind_some]
    rw [heldP_f _ _ _ _ _ _ _ _ _ _ _ (by omega) (by omega)]
    simp only [Option.bind_some]
    rw [if_neg hz, if_pos (by trivial), toP_f _ _ _ _ _ _ _ _ _ o p hc (by omega)]
    simp only [Option.bind_some]
    rw [(hs _ (by omega)).2]
    simp only [Option.bind_some]
    rw [eqP_same _ _ _ _ _ _ _ _ _ Ro Rp (by omega) (by omega)]
    simp only [Option.bind_some, if_true, bne_self_eq_false]
    rw [laws_FnExactComplain.j2, if_neg (by simp), heldP_f _ _ _ _ _ _ _ _ _ _ _ (by omega) (by omega)]
    simp only [Option.bind_some]
    rw [if_neg hz, if_pos (by trivial)]

end Go.Proofs.Ytkfbcmbemihbnaa.Pure
