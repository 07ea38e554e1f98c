/- Fragment of the program returns what Fragment of the reference returns, for all arguments, leaves its argument as it was, and its answer owns its memory; without conditions. -/
import Derived.Test.YtcapkpbjppenpaaPFnExactFragmentx7
set_option linter.unusedVariables false
set_option linter.unusedSimpArgs false
namespace Go.Proofs.Ytcapkpbjppenpaa.Pure
open Go.RowKit Go.Proofs.Ytcapkpbjppenpaa.PFnExactFragment Go.Proofs.YtcapkpbjppenpaaW.PrintWords Go.Proofs.YtcapkpbjppenpaaW.PrintLast

/-! ### base -/
theorem wf64 {a : Int} (h : (Lit.int .i64 a).wf = true) : -9223372036854775808 ≤ a ∧ a ≤ 9223372036854775807 := by
  have h1 : IntKind.i64.min = -9223372036854775808 := by decide
  have h2 : IntKind.i64.max = 9223372036854775807 := by decide
  simp only [Lit.wf, Bool.and_eq_true, decide_eq_true_eq] at h
  omega
theorem tm_pos {a : Int} (n : Int) (h : 0 ≤ a) : Int.tmod a n = a % n := Int.tmod_eq_emod_of_nonneg h
theorem tm_neg {a : Int} (n : Int) (h : a ≤ 0) : Int.tmod a n = -((-a) % n) := by
  have := Int.neg_tmod (-a) n
  rw [Int.neg_neg] at this
  rw [this, Int.tmod_eq_emod_of_nonneg (by omega)]
theorem td_pos {a : Int} (n : Int) (h : 0 ≤ a) : Int.tdiv a n = a / n := Int.tdiv_eq_ediv_of_nonneg h
theorem wr64 {a : Int} (h : -9223372036854775808 ≤ a ∧ a ≤ 9223372036854775807) : wrap64 a = a := by
  unfold wrap64
  omega
theorem dec_eq {p : Prop} [Decidable p] {b : Bool} (h : b = true ↔ p) : some b = some (decide p) := by
  rw [Option.some.injEq, Bool.eq_iff_iff, decide_eq_true_eq]
  exact h
theorem ite_dec (p q : Prop) [Decidable p] [Decidable q] : (if p then some (decide q) else some false) = some (decide (p ∧ q)) := by
  by_cases h : p <;> simp [h]
theorem beq_dec (a b : Int) : (a == b) = decide (a = b) := by
  rw [Bool.eq_iff_iff]
  simp

/-! ### addr0 -/
theorem in_f (a l h : Int) : spec_l01In.f a l h = some (decide (l ≤ a ∧ a ≤ h)) := by
  unfold spec_l01In.f
  by_cases h1 : a ≥ l
  · rw [if_pos h1]; congr 1; rw [decide_eq_decide]; omega
  · rw [if_neg h1]; congr 1; rw [eq_comm, decide_eq_false_iff_not]; omega

/-! ### addr -/
theorem addrOK_f (a : Int) : spec_l02AddrOK.f a = some (decide (0 ≤ a ∧ a ≤ 4294967295)) := by
  unfold spec_l02AddrOK.f
  rw [in_f]
  rfl
theorem isAddr_f (a : Int) : impl_isAddr.f a = some (decide (0 ≤ a ∧ a ≤ 4294967295)) := by
  unfold impl_isAddr.f
  by_cases h1 : a ≥ 0
  · rw [if_pos h1]; congr 1; rw [decide_eq_decide]; omega
  · rw [if_neg h1]; congr 1; rw [eq_comm, decide_eq_false_iff_not]; omega

/-! ### lists -/
theorem rd_at {xs : List Int} {i : Nat} (h : i < xs.length) : rd xs (i : Int) = xs[i] := by
  unfold rd
  rw [Int.toNat_natCast, List.getD_eq_getElem?_getD, List.getElem?_eq_getElem h]
  rfl
theorem wr_succ {i n : Nat} (h : i < n) (hn : n ≤ 281474976710656) : wrap64 ((i : Int) + 1) = ((i + 1 : Nat) : Int) := by
  rw [wr64 (by omega)]
  omega
theorem maxLen_le {n : Nat} (h : n ≤ 1048576) : n ≤ 281474976710656 := by omega

/-! ### tobytes -/
theorem toB_l (x0 : List Int) (hn : x0.length ≤ 281474976710656) (d : Nat) : ∀ (k i : Nat) (x3 : List Int), i + d = x0.length → d < k → x3.length = x0.length → (∀ j, j < i → x3[j]? = x0[j]?) → laws_toByteS.l0 k x0 x3 (i : Int) = some x0 := by
  induction d with
  | zero =>
    intro k i x3 hi hk hl he
    obtain ⟨k, rfl⟩ : ∃ m, k = m + 1 := ⟨k - 1, by omega⟩
    simp only [laws_toByteS.l0]
    rw [if_neg (by omega)]
    congr 1
    apply List.ext_getElem?
    intro j
    by_cases hj : j < i
    · exact he j hj
    · rw [List.getElem?_eq_none (by omega), List.getElem?_eq_none (by omega)]
  | succ d ih =>
    intro k i x3 hi hk hl he
    obtain ⟨k, rfl⟩ : ∃ m, k = m + 1 := ⟨k - 1, by omega⟩
    simp only [laws_toByteS.l0]
    rw [if_pos (by omega), if_pos (by omega), if_pos (by omega), wr_succ (n := x0.length) (by omega) hn]
    refine ih k (i + 1) _ (by omega) (by omega) (by simp [hl]) ?_
    intro j hj
    rw [Int.toNat_natCast]
    by_cases e : j = i
    · subst e
      rw [List.getElem?_set_self (by omega), rd_at (by omega), List.getElem?_eq_getElem (by omega)]
    · rw [List.getElem?_set_ne (by omega)]
      exact he j (by omega)
theorem toB_f {l : List Int} (hn : l.length ≤ 281474976710656) {k : Nat} (hk : l.length < k) : laws_toByteS.f k l = some l := by
  unfold laws_toByteS.f
  rw [if_pos (by omega), if_pos (by simpa using hn), Int.toNat_natCast]
  exact toB_l l hn l.length k 0 _ (by omega) hk (by simp) (fun j hj => absurd hj (by omega))

/-! ### eqbytes -/
theorem eqB_l (x0 x1 : List Int) (hn : x0.length ≤ 281474976710656) (hl : x0.length = x1.length) (d : Nat) : ∀ (k i : Nat), i + d = x0.length → d < k → (∀ j, j < i → x0[j]? = x1[j]?) → laws_eqByteS.l0 k x0 x1 (i : Int) = some (decide (x0 = x1)) := by
  induction d with
  | zero =>
    intro k i hi hk he
    obtain ⟨k, rfl⟩ : ∃ m, k = m + 1 := ⟨k - 1, by omega⟩
    simp only [laws_eqByteS.l0]
    rw [if_neg (by omega)]
    have : x0 = x1 := by
      apply List.ext_getElem?
      intro j
      by_cases hj : j < i
      · exact he j hj
      · rw [List.getElem?_eq_none (by omega), List.getElem?_eq_none (by omega)]
    simp [this]
  | succ d ih =>
    intro k i hi hk he
    obtain ⟨k, rfl⟩ : ∃ m, k = m + 1 := ⟨k - 1, by omega⟩
    simp only [laws_eqByteS.l0]
    rw [if_pos (by omega), if_pos (by omega), if_pos (by omega), wr_succ (n := x0.length) (by omega) hn, rd_at (by omega), rd_at (by omega)]
    by_cases e : x0[i] = x1[i]
    · rw [if_pos e]
      refine ih k (i + 1) (by omega) (by omega) ?_
      intro j hj
      by_cases ej : j = i
      · subst ej
        rw [List.getElem?_eq_getElem (by omega), List.getElem?_eq_getElem (by omega), e]
      · exact he j (by omega)
    · rw [if_neg e]
      have : x0 ≠ x1 := fun h => by
        subst h
        exact e rfl
      simp [this]
theorem eqB_f {l m : List Int} (hn : l.length ≤ 281474976710656) {k : Nat} (hk : l.length < k) : laws_eqByteS.f k l m = some (decide (l = m)) := by
  unfold laws_eqByteS.f
  by_cases h : l.length = m.length
  · rw [if_pos (by omega)]
    exact eqB_l l m hn h l.length k 0 (by omega) hk (fun j hj => absurd hj (by omega))
  · rw [if_neg (by omega)]
    have : l ≠ m := fun e => h (by rw [e])
    simp [this]

/-! ### szbytes -/
theorem szB_f {l : List Int} {a : Int} (ha : 0 ≤ a ∧ a ≤ 1048576) (hl : l.length ≤ 9223372036854775807) : laws_szByteS.f l a = some (if (l.length : Int) > a then -1 else a - (l.length : Int)) := by
  unfold laws_szByteS.f
  rw [wr64 (by omega)]
  by_cases h : (l.length : Int) > a
  · rw [if_pos (by omega), if_pos h]
  · rw [if_neg (by omega), if_neg h]
theorem len_of {l : List Int} (h : l.length ≤ maxLen) : l.length ≤ 9223372036854775807 := by
  unfold maxLen at h
  exact h

/-! ### szpacket -/
theorem szP_f (tos id : Int) (df mf : Bool) (off ttl proto src dst : Int) (o p : List Int) (ho : o.length ≤ 9223372036854775807) (hp : p.length ≤ 9223372036854775807) : ∃ r, laws_szPacket.f tos id df mf off ttl proto src dst o p 1048576 = some r ∧ (¬ r < 0 → o.length + p.length ≤ 1048576) := by
  unfold laws_szPacket.f
  rw [szB_f (by omega) ho]
  simp only [Option.bind_some]
  by_cases h1 : (o.length : Int) > 1048576
  · simp only [h1, if_true]
    exact ⟨_, rfl, fun h => absurd h (by omega)⟩
  · rw [if_neg h1]
    rw [if_neg (by omega), szB_f (by omega) hp]
    simp only [Option.bind_some]
    by_cases h2 : (p.length : Int) > 1048576 - (o.length : Int)
    · simp only [h2, if_true]
      exact ⟨_, rfl, fun h => absurd h (by omega)⟩
    · rw [if_neg h2, if_neg (by omega)]
      exact ⟨_, rfl, fun _ => by omega⟩

/-! ### eqpacket -/
theorem eqP_same (tos id : Int) (df mf : Bool) (off ttl proto src dst : Int) (o p : List Int) {k : Nat} (h : o.length + p.length ≤ 4194304) (hk : o.length + p.length < k) : laws_eqPacket.f k tos id df mf off ttl proto src dst o p tos id df mf off ttl proto src dst o p = some true := by
  unfold laws_eqPacket.f
  rw [eqB_f (by omega) (by omega), eqB_f (by omega) (by omega)]
  simp

/-! ### topacket -/
theorem toP_f (tos id : Int) (df mf : Bool) (off ttl proto src dst : Int) (o p : List Int) {k : Nat} (h : o.length + p.length ≤ 1048576) (hk : o.length + p.length < k) : laws_toPacket.f k tos id df mf off ttl proto src dst o p = some (tos, id, df, mf, off, ttl, proto, src, dst, o, p) := by
  unfold laws_toPacket.f
  rw [toB_f (by omega) (by omega), toB_f (by omega) (by omega)]
  rfl

/-! ### marks -/
/-- n marks from a number on. -/
def mks (a : Int) : Nat → List Int
  | 0 => []
  | n + 1 => mks a n ++ [(a + n) % 256]
theorem mks_len (a : Int) (n : Nat) : (mks a n).length = n := by
  induction n with
  | zero => rfl
  | succ n ih => simp [mks, ih]
theorem mks_at (a : Int) (n : Nat) : ∀ j, j < n → (mks a n)[j]? = some ((a + j) % 256) := by
  induction n with
  | zero => intro j h; omega
  | succ n ih =>
    intro j h
    unfold mks
    by_cases e : j < n
    · rw [List.getElem?_append_left (by rw [mks_len]; exact e)]
      exact ih j e
    · obtain rfl : j = n := by omega
      rw [List.getElem?_append_right (by rw [mks_len]; exact Nat.le_refl _), mks_len]
      simp
theorem markB_l (n : Nat) (a : Int) (ha : 0 ≤ a ∧ a ≤ 1099511627776) (hn : n ≤ 1099511627776) (d : Nat) : ∀ (k i : Nat) (x0 : List Int), x0.length = n → i + d = n → d < k → (∀ j, j < i → x0[j]? = some ((a + j) % 256)) → laws_markByteS.l0 k x0 (a + i) (i : Int) = some (a + n, mks a n) := by
  induction d with
  | zero =>
    intro k i x0 hl hi hk he
    obtain ⟨k, rfl⟩ : ∃ m, k = m + 1 := ⟨k - 1, by omega⟩
    simp only [laws_markByteS.l0]
    rw [if_neg (by omega)]
    congr 1
    rw [Prod.mk.injEq]
    refine ⟨by omega, ?_⟩
    apply List.ext_getElem?
    intro j
    by_cases hj : j < n
    · rw [he j (by omega), mks_at _ _ _ hj]
    · rw [List.getElem?_eq_none (by omega), List.getElem?_eq_none (by rw [mks_len]; omega)]
  | succ d ih =>
    intro k i x0 hl hi hk he
    obtain ⟨k, rfl⟩ : ∃ m, k = m + 1 := ⟨k - 1, by omega⟩
    simp only [laws_markByteS.l0]
    rw [if_pos (by omega), if_pos (by omega), wr64 (a := (i : Int) + 1) (by omega), wr64 (by omega), show a + (i : Int) + 1 = a + ((i + 1 : Nat) : Int) from by omega, show (i : Int) + 1 = ((i + 1 : Nat) : Int) from by omega, Int.toNat_natCast]
    refine ih k (i + 1) _ (by simp [hl]) (by omega) (by omega) ?_
    intro j hj
    by_cases e : j = i
    · subst e
      rw [List.getElem?_set_self (by omega)]
    · rw [List.getElem?_set_ne (by omega)]
      exact he j (by omega)
theorem markB_f {l : List Int} {a : Int} (ha : 0 ≤ a ∧ a ≤ 1099511627776) (hn : l.length ≤ 1099511627776) {k : Nat} (hk : l.length < k) : laws_markByteS.f k l a = some (a + l.length, mks a l.length) := by
  unfold laws_markByteS.f
  have := markB_l l.length a ha hn l.length k 0 l rfl (by omega) hk (fun j hj => absurd hj (by omega))
  simpa using this
theorem heldB_l (n : Nat) (a : Int) (ha : 0 ≤ a ∧ a ≤ 1099511627776) (hn : n ≤ 1099511627776) (d : Nat) : ∀ (k i : Nat), i + d = n → d < k → laws_heldByteS.l0 k (mks a n) (a + i) (i : Int) = some (a + n) := by
  induction d with
  | zero =>
    intro k i hi hk
    obtain ⟨k, rfl⟩ : ∃ m, k = m + 1 := ⟨k - 1, by omega⟩
    simp only [laws_heldByteS.l0]
    rw [if_neg (by rw [mks_len]; omega)]
    congr 1
    omega
  | succ d ih =>
    intro k i hi hk
    obtain ⟨k, rfl⟩ : ∃ m, k = m + 1 := ⟨k - 1, by omega⟩
    simp only [laws_heldByteS.l0]
    have hr : rd (mks a n) (i : Int) = (a + i) % 256 := by
      unfold rd
      rw [Int.toNat_natCast, List.getD_eq_getElem?_getD, mks_at a n i (by omega)]
      rfl
    rw [if_pos (by rw [mks_len]; omega), if_pos (by omega), if_pos hr, wr64 (a := (i : Int) + 1) (by omega), wr64 (by omega), show a + (i : Int) + 1 = a + ((i + 1 : Nat) : Int) from by omega, show (i : Int) + 1 = ((i + 1 : Nat) : Int) from by omega]
    exact ih k (i + 1) (by omega) (by omega)
theorem heldB_f {n : Nat} {a : Int} (ha : 0 ≤ a ∧ a ≤ 1099511627776) (hn : n ≤ 1099511627776) {k : Nat} (hk : n < k) : laws_heldByteS.f k (mks a n) a = some (a + n) := by
  unfold laws_heldByteS.f
  have := heldB_l n a ha hn n k 0 (by omega) hk
  simpa using this

/-! ### ip -/
theorem tm8 (a : Int) : (Int.tmod a 8 = 0) ↔ a % 8 = 0 := by
  rcases Int.le_total 0 a with h | h
  · rw [tm_pos _ h]
  · rw [tm_neg _ h]
    omega
def okI (tos id off ttl proto src dst : Int) (o : List Int) : Prop := (0 ≤ tos ∧ tos ≤ 255) ∧ (0 ≤ ttl ∧ ttl ≤ 255) ∧ (0 ≤ proto ∧ proto ≤ 255) ∧ (0 ≤ id ∧ id ≤ 65535) ∧ (0 ≤ off ∧ off ≤ 65528) ∧ off % 8 = 0 ∧ (0 ≤ src ∧ src ≤ 4294967295) ∧ (0 ≤ dst ∧ dst ≤ 4294967295) ∧ (o.length : Int) ≤ 40 ∧ (o.length : Int) % 4 = 0
instance (tos id off ttl proto src dst : Int) (o : List Int) : Decidable (okI tos id off ttl proto src dst o) := by unfold okI; exact inferInstance
theorem okI_spec (tos id : Int) (df mf : Bool) (off ttl proto src dst : Int) (o p : List Int) : spec_l05OK.f tos id df mf off ttl proto src dst o p = some (decide (okI tos id off ttl proto src dst o)) := by
  unfold spec_l05OK.f
  simp only [in_f, addrOK_f, Option.bind_some, decide_eq_true_eq, tm8, beq_dec, ite_dec]
  apply dec_eq
  rw [decide_eq_true_eq]
  unfold okI
  omega
theorem okI_impl (tos id : Int) (df mf : Bool) (off ttl proto src dst : Int) (o p : List Int) : impl_okIP.f tos id df mf off ttl proto src dst o p = some (decide (okI tos id off ttl proto src dst o)) := by
  unfold impl_okIP.f
  simp only [isAddr_f, Option.bind_some, decide_eq_true_eq, tm8, beq_dec, ite_dec]
  apply dec_eq
  rw [decide_eq_true_eq]
  unfold okI
  omega

/-! ### bits -/
theorem wraps_i64 (n : Int) (h₀ : 0 ≤ n) (h₁ : n < 2 ^ 63) : IntKind.i64.wrap n = n := by rw [IntKind.wrap_i64]; omega
/-- The low bits of any whole number. -/
theorem and_low (i : Nat) (hi : i ≤ 62) (x : Int) : Go.bits .and .i64 x (2 ^ i - 1) = x % 2 ^ i := by
  have hpos : 0 < 2 ^ i := Nat.two_pow_pos i
  have h62 : 2 ^ i ≤ 2 ^ 62 := Nat.pow_le_pow_right (by decide) hi
  have hc : ((2 : Int) ^ i - 1) = ((2 ^ i - 1 : Nat) : Int) := by
    rw [Int.natCast_sub hpos]; simp
  have hx0 : 0 ≤ x % 18446744073709551616 := Int.emod_nonneg _ (by decide)
  have hx : (BitVec.ofInt 64 x).toNat = (x % 18446744073709551616).toNat := by rw [BitVec.toNat_ofInt]; rfl
  have hd : ((2 : Int) ^ i) ∣ 18446744073709551616 := by
    rw [show (18446744073709551616 : Int) = 2 ^ 64 from rfl]
    exact ⟨2 ^ (64 - i), by rw [← Int.pow_add, show i + (64 - i) = 64 from by omega]⟩
  have h2 : ((x % 18446744073709551616).toNat % 2 ^ i : Nat) = (x % 2 ^ i).toNat := by
    apply Int.ofNat.inj
    have e1 : (((x % 18446744073709551616).toNat % 2 ^ i : Nat) : Int) = x % 2 ^ i := by
      rw [Int.natCast_emod, Int.toNat_of_nonneg hx0, Int.natCast_pow]
      exact Int.emod_emod_of_dvd _ hd
    have e2 : 0 ≤ x % 2 ^ i := Int.emod_nonneg _ (by have : (0 : Int) < 2 ^ i := Int.pow_pos (by decide); omega)
    exact e1.trans (Int.toNat_of_nonneg e2).symm
  have e2 : 0 ≤ x % 2 ^ i := Int.emod_nonneg _ (by have : (0 : Int) < 2 ^ i := Int.pow_pos (by decide); omega)
  have e3 : x % 2 ^ i < 2 ^ i := Int.emod_lt_of_pos _ (Int.pow_pos (by decide))
  have e4 : (2 : Int) ^ i ≤ 2 ^ 62 := by exact_mod_cast h62
  have key : Go.bits .and .i64 x (2 ^ i - 1) = IntKind.i64.wrap (((BitVec.ofInt 64 x).toNat &&& (BitVec.ofInt 64 ((2 ^ i - 1 : Nat) : Int)).toNat : Nat) : Int) := by
    rw [hc]
    show IntKind.i64.wrap ((BitVec.ofInt 64 x &&& BitVec.ofInt 64 ((2 ^ i - 1 : Nat) : Int)).toNat : Int) = _
    rw [BitVec.toNat_and]
  rw [key, hx]
  have hm : (BitVec.ofInt 64 ((2 ^ i - 1 : Nat) : Int)).toNat = 2 ^ i - 1 := by
    rw [BitVec.ofInt_natCast, BitVec.toNat_ofNat]
    exact Nat.mod_eq_of_lt (by omega)
  rw [hm, Nat.and_two_pow_sub_one_eq_mod, h2, Int.toNat_of_nonneg e2]
  exact wraps_i64 _ e2 (by omega)
theorem and_65535 (x : Int) : Go.bits .and .i64 x 65535 = x % 65536 := and_low 16 (by decide) x
theorem and_255 (x : Int) : Go.bits .and .i64 x 255 = x % 256 := and_low 8 (by decide) x
theorem nat_and_high (a n : Nat) (ha : a < 2 ^ 32) (hn : n ≤ 32) : a &&& ((2 ^ (32 - n) - 1) * 2 ^ n) = a / 2 ^ n * 2 ^ n := by
  apply Nat.eq_of_testBit_eq
  intro i
  rw [Nat.testBit_and, Nat.testBit_mul_two_pow, Nat.testBit_mul_two_pow, Nat.testBit_div_two_pow, Nat.testBit_two_pow_sub_one]
  by_cases h : n ≤ i
  · simp only [h, decide_true, Bool.true_and]
    rw [show i - n + n = i from by omega]
    by_cases h3 : i - n < 32 - n
    · simp [h3]
    · have : a.testBit i = false := Nat.testBit_lt_two_pow (Nat.lt_of_lt_of_le ha (Nat.pow_le_pow_right (by decide) (by omega)))
      simp [this]
  · simp [h]
theorem and_high (a : Int) (n : Nat) (h0 : 0 ≤ a) (h1 : a ≤ 4294967295) (hn : n ≤ 32) : Go.bits .and .i64 a ((2 ^ (32 - n) - 1) * 2 ^ n) = a / 2 ^ n * 2 ^ n := by
  obtain ⟨b, rfl⟩ := Int.eq_ofNat_of_zero_le h0
  have hc : (((2 : Int) ^ (32 - n) - 1) * 2 ^ n) = (((2 ^ (32 - n) - 1) * 2 ^ n : Nat) : Int) := by
    rw [Int.natCast_mul, Int.natCast_sub (Nat.two_pow_pos _)]; simp
  have hl : (2 ^ (32 - n) - 1) * 2 ^ n ≤ 4294967295 := by
    rw [Nat.sub_mul, ← Nat.pow_add, show 32 - n + n = 32 from by omega]
    have := Nat.two_pow_pos n
    omega
  rw [hc, (bits_nat .i64 63 (by decide) wraps_i64 b _ (by omega) (by omega)).1, nat_and_high b n (by omega) hn]
  simp

/-! ### wsum -/
/-- What a sum of numbers of two bytes folds to. -/
def fold (s : Int) : Int := if s = 0 then 0 else (s - 1) % 65535 + 1
theorem fold_le (s : Int) (h : 0 ≤ s) : 0 ≤ fold s ∧ fold s ≤ 65535 := by unfold fold; split <;> omega
theorem fold_low {s : Int} (h : 0 ≤ s ∧ s ≤ 65535) : fold s = s := by unfold fold; split <;> omega
theorem fold_step {s : Int} (h : s > 65535) : fold (s / 65536 + s % 65536) = fold s := by
  unfold fold
  rw [if_neg (by omega), if_neg (by omega)]
  omega
theorem fold_sub {s : Int} (h : s > 65535) : fold (s - 65535) = fold s := by
  unfold fold
  rw [if_neg (by omega), if_neg (by omega)]
  omega
/-- The sum of bytes: the one at a place with 'b' counts 256 times, and so on in turn. -/
def wsp : Bool → List Int → Int
  | _, [] => 0
  | true, a :: r => a * 256 + wsp false r
  | false, a :: r => a + wsp true r
/-- All are bytes. -/
def Bs (l : List Int) : Prop := ∀ x ∈ l, 0 ≤ x ∧ x ≤ 255
theorem Bs.get {l : List Int} (h : Bs l) {i : Nat} (hi : i < l.length) : 0 ≤ l[i] ∧ l[i] ≤ 255 := h _ (List.getElem_mem hi)
theorem Bs.of {l : List Int} (h : ∀ x ∈ l, (Lit.int .u8 x).wf = true) : Bs l := by
  intro x hx
  have hw := h x hx
  have h1 : IntKind.u8.min = 0 := by decide
  have h2 : IntKind.u8.max = 255 := by decide
  simp only [Lit.wf, Bool.and_eq_true, decide_eq_true_eq] at hw
  omega
theorem Bs.append {a b : List Int} (ha : Bs a) (hb : Bs b) : Bs (a ++ b) := by
  intro x hx
  rcases List.mem_append.1 hx with h | h
  · exact ha x h
  · exact hb x h
theorem Bs.take {l : List Int} (h : Bs l) (n : Nat) : Bs (l.take n) := fun x hx => h x (List.mem_of_mem_take hx)
theorem Bs.drop {l : List Int} (h : Bs l) (n : Nat) : Bs (l.drop n) := fun x hx => h x (List.mem_of_mem_drop hx)
theorem Bs.tail {a : Int} {l : List Int} (h : Bs (a :: l)) : Bs l := fun x hx => h x (List.mem_cons_of_mem _ hx)
theorem wsp_bd (l : List Int) : ∀ (b : Bool), Bs l → 0 ≤ wsp b l ∧ wsp b l ≤ 65280 * (l.length : Int) := by
  induction l with
  | nil => intro b _; cases b <;> simp [wsp]
  | cons a r ih =>
    intro b h
    have ha := h a (List.mem_cons_self ..)
    have h1 := ih true h.tail
    have h2 := ih false h.tail
    cases b <;> (simp only [wsp, List.length_cons]; omega)
theorem drop_cons {l : List Int} {i : Nat} (h : i < l.length) : l.drop i = l[i] :: l.drop (i + 1) := List.drop_eq_getElem_cons h
/-- The checksum of bytes. -/
def csum (l : List Int) : Int := 65535 - fold (wsp true l)
theorem csum_le {l : List Int} (h : Bs l) : 0 ≤ csum l ∧ csum l ≤ 65535 := by
  have := fold_le _ (wsp_bd l true h).1
  unfold csum
  omega

/-! ### be -/
/-- The low n bytes of a number, the high one first. -/
def be : Nat → Int → List Int
  | 0, _ => []
  | n + 1, v => (v / 2 ^ (8 * n) % 256) :: be n v
theorem be_len (n : Nat) (v : Int) : (be n v).length = n := by
  induction n with
  | zero => rfl
  | succ n ih => simp [be, ih]

/-! ### bebytes -/
theorem be_bytes (n : Nat) (v : Int) : Bs (be n v) := by
  induction n with
  | zero => intro x hx; cases hx
  | succ n ih =>
    intro x hx
    rcases List.mem_cons.1 hx with rfl | h
    · omega
    · exact ih x h

/-! ### l01copy -/
theorem copy_l (x0 : List Int) (hn : x0.length ≤ 1048576) (d : Nat) : ∀ (k i : Nat), i + d = x0.length → d < k → spec_l01Copy.l0 k x0 (x0.take i) (i : Int) = some x0 := by
  induction d with
  | zero =>
    intro k i hi hk
    obtain ⟨k, rfl⟩ : ∃ m, k = m + 1 := ⟨k - 1, by omega⟩
    simp only [spec_l01Copy.l0]
    rw [if_neg (by omega), List.take_of_length_le (by omega)]
  | succ d ih =>
    intro k i hi hk
    obtain ⟨k, rfl⟩ : ∃ m, k = m + 1 := ⟨k - 1, by omega⟩
    simp only [spec_l01Copy.l0]
    rw [if_pos (by omega), if_pos (by omega), if_pos (by rw [List.length_take]; omega), wr_succ (n := x0.length) (by omega) (by omega), rd_at (by omega), ← List.take_succ_eq_append_getElem (by omega)]
    exact ih k (i + 1) (by omega) (by omega)
theorem copy_f {l : List Int} (hn : l.length ≤ 1048576) {k : Nat} (hk : l.length < k) : spec_l01Copy.f k l = some l := copy_l l hn l.length k 0 (by omega) hk

/-! ### l01join -/
theorem join_l (a x1 : List Int) (ha : a.length ≤ 1048576) (hn : x1.length ≤ 1048576) (d : Nat) : ∀ (k i : Nat), i + d = x1.length → d < k → spec_l01Join.l0 k x1 (a ++ x1.take i) (i : Int) = some (a ++ x1) := by
  induction d with
  | zero =>
    intro k i hi hk
    obtain ⟨k, rfl⟩ : ∃ m, k = m + 1 := ⟨k - 1, by omega⟩
    simp only [spec_l01Join.l0]
    rw [if_neg (by omega), List.take_of_length_le (by omega)]
  | succ d ih =>
    intro k i hi hk
    obtain ⟨k, rfl⟩ : ∃ m, k = m + 1 := ⟨k - 1, by omega⟩
    simp only [spec_l01Join.l0]
    rw [if_pos (by omega), if_pos (by omega), if_pos (by rw [List.length_append, List.length_take]; omega), wr_succ (n := x1.length) (by omega) (by omega), rd_at (by omega), List.append_assoc, ← List.take_succ_eq_append_getElem (by omega)]
    exact ih k (i + 1) (by omega) (by omega)
theorem join_f {a b : List Int} (ha : a.length ≤ 1048576) (hb : b.length ≤ 1048576) {k : Nat} (hk : a.length < k) (hk2 : b.length < k) : spec_l01Join.f k a b = some (a ++ b) := by
  unfold spec_l01Join.f
  rw [copy_f ha hk]
  have := join_l a b ha hb b.length k 0 (by omega) hk2
  simpa using this

/-! ### specsum -/
theorem ssum_l (l : List Int) (hb : Bs l) (hn : l.length ≤ 1048576) (d : Nat) : ∀ (k i : Nat) (s : Int), l.length - i ≤ d → d < k → 0 ≤ s → s ≤ 65535 → i ≤ l.length + 1 → spec_l01Sum.l0 k l s (i : Int) = some (fold (s + wsp true (l.drop i))) := by
  induction d with
  | zero =>
    intro k i s hi hk h0 h1 hl
    obtain ⟨k, rfl⟩ : ∃ m, k = m + 1 := ⟨k - 1, by omega⟩
    simp only [spec_l01Sum.l0]
    rw [if_neg (by omega), List.drop_eq_nil_of_le (by omega)]
    simp only [wsp, Int.add_zero]
    rw [fold_low ⟨h0, h1⟩]
  | succ d ih =>
    intro k i s hi hk h0 h1 hl
    obtain ⟨k, rfl⟩ : ∃ m, k = m + 1 := ⟨k - 1, by omega⟩
    simp only [spec_l01Sum.l0]
    by_cases c1 : i < l.length
    · have b1 := hb.get c1
      rw [if_pos (by omega), if_pos (by omega), wr64 (a := (i : Int) + 1) (by omega), rd_at c1, wr64 (a := l[i]) (by omega), wr64 (a := l[i] * 256) (by omega), drop_cons c1]
      by_cases c2 : i + 1 < l.length
      · have b2 := hb.get c2
        have bd := wsp_bd (l.drop (i + 1 + 1)) true (hb.drop _)
        rw [if_pos (by omega), if_pos (by omega), show (i : Int) + 1 = ((i + 1 : Nat) : Int) from by omega, rd_at c2, wr64 (a := l[i + 1]) (by omega), wr64 (a := l[i] * 256 + l[i + 1]) (by omega), wr64 (a := s + (l[i] * 256 + l[i + 1])) (by omega), wr64 (a := (i : Int) + 2) (by omega), show (i : Int) + 2 = ((i + 1 + 1 : Nat) : Int) from by omega, drop_cons c2]
        simp only [wsp]
        by_cases c3 : s + (l[i] * 256 + l[i + 1]) > 65535
        · rw [if_pos c3, wr64 (by omega), ih k _ _ (by omega) (by omega) (by omega) (by omega) (by omega)]
          rw [← fold_sub (s := s + (l[i] * 256 + (l[i + 1] + wsp true (l.drop (i + 1 + 1))))) (by omega)]
          congr 2
          omega
        · rw [if_neg c3, ih k _ _ (by omega) (by omega) (by omega) (by omega) (by omega)]
          congr 2
          omega
      · rw [if_neg (by omega), wr64 (a := s + l[i] * 256) (by omega), wr64 (a := (i : Int) + 2) (by omega), show (i : Int) + 2 = ((i + 2 : Nat) : Int) from by omega, List.drop_eq_nil_of_le (show l.length ≤ i + 1 by omega)]
        have e2 : l.drop (i + 2) = [] := List.drop_eq_nil_of_le (by omega)
        simp only [wsp, Int.add_zero]
        by_cases c3 : s + l[i] * 256 > 65535
        · rw [if_pos c3, wr64 (by omega), ih k _ _ (by omega) (by omega) (by omega) (by omega) (by omega), e2]
          simp only [wsp, Int.add_zero]
          rw [← fold_sub (s := s + l[i] * 256) c3]
        · rw [if_neg c3, ih k _ _ (by omega) (by omega) (by omega) (by omega) (by omega), e2]
          simp only [wsp, Int.add_zero]
    · rw [if_neg (by omega), List.drop_eq_nil_of_le (by omega)]
      simp only [wsp, Int.add_zero]
      rw [fold_low ⟨h0, h1⟩]
theorem scheck_f {l : List Int} (hb : Bs l) (hn : l.length ≤ 1048576) {k : Nat} (hk : l.length < k) : spec_Checksum.f k l = some (csum l) := by
  unfold spec_Checksum.f spec_l01Sum.f
  have h := ssum_l l hb hn l.length k 0 0 (by omega) hk (by omega) (by omega) (by omega)
  rw [show ((0 : Nat) : Int) = 0 from rfl] at h
  have bd := wsp_bd l true hb
  have fl := fold_le _ bd.1
  rw [h]
  simp only [Option.bind_some, List.drop_zero, Int.zero_add]
  rw [wr64 (by omega)]
  rfl

/-! ### specput -/
theorem sput_l (v : Int) (n : Nat) : ∀ (k : Nat) (x : List Int), n ≤ 8 → x.length + n ≤ 1048576 → n < k → spec_l03Put.l0 k v x ((n : Int) - 1) = some (x ++ be n v) := by
  induction n with
  | zero =>
    intro k x hn hx hk
    obtain ⟨k, rfl⟩ : ∃ m, k = m + 1 := ⟨k - 1, by omega⟩
    simp only [spec_l03Put.l0]
    rw [if_neg (by omega)]
    simp [be]
  | succ n ih =>
    intro k x hn hx hk
    obtain ⟨k, rfl⟩ : ∃ m, k = m + 1 := ⟨k - 1, by omega⟩
    simp only [spec_l03Put.l0]
    have h8 : IntKind.u64.wrap (wrap64 (8 * (((n + 1 : Nat) : Int) - 1))) = ((8 * n : Nat) : Int) := by
      rw [wr64 (by omega)]
      simp only [IntKind.wrap, IntKind.bits, IntKind.signed]
      simp
      omega
    rw [if_pos (by omega), h8, if_pos (by omega), if_pos (by omega), wr64 (by omega), show ((n + 1 : Nat) : Int) - 1 - 1 = (n : Int) - 1 from by omega]
    rw [ih k _ (by omega) (by simp; omega) (by omega)]
    unfold shr
    rw [show min ((8 * n : Nat) : Int).toNat IntKind.i64.bits = 8 * n from by rw [Int.toNat_natCast]; show min (8 * n) 64 = 8 * n; omega]
    simp [be, List.append_assoc]
theorem sput_f {v : Int} {n : Nat} (hn : n ≤ 8) {k : Nat} (hk : n < k) : spec_l03Put.f k v (n : Int) = some (be n v) := by
  unfold spec_l03Put.f
  rw [wr64 (by omega), sput_l v n k [] hn (by simp; omega) hk]
  rfl

/-! ### ipspec -/
def flg (df mf : Bool) (off : Int) : Int := (if df = true then 16384 else 0) + (if mf = true then 8192 else 0) + off / 8
def ihead (tos id : Int) (df mf : Bool) (off ttl proto src dst : Int) (o p : List Int) : List Int :=
  [(64 + (20 + (o.length : Int)) / 4) % 256, tos % 256] ++ be 2 (20 + (o.length : Int) + (p.length : Int)) ++ be 2 id ++ be 2 (flg df mf off) ++ [ttl % 256, proto % 256, 0, 0] ++ be 4 src ++ be 4 dst ++ o
theorem ihead_len (tos id : Int) (df mf : Bool) (off ttl proto src dst : Int) (o p : List Int) : (ihead tos id df mf off ttl proto src dst o p).length = 20 + o.length := by
  simp [ihead, be_len]
  omega
theorem ihead_bytes (tos id : Int) (df mf : Bool) (off ttl proto src dst : Int) {o : List Int} (p : List Int) (ho : Bs o) : Bs (ihead tos id df mf off ttl proto src dst o p) := by
  unfold ihead
  refine Bs.append (Bs.append (Bs.append (Bs.append (Bs.append (Bs.append (Bs.append ?_ (be_bytes _ _)) (be_bytes _ _)) (be_bytes _ _)) ?_) (be_bytes _ _)) (be_bytes _ _)) ho
  · intro x hx
    simp only [List.mem_cons, List.not_mem_nil, or_false] at hx
    rcases hx with rfl | rfl <;> omega
  · intro x hx
    simp only [List.mem_cons, List.not_mem_nil, or_false] at hx
    rcases hx with rfl | rfl | rfl | rfl <;> omega
def iout (h : List Int) : List Int := (h.set (10 : Int).toNat ((csum h / 256) % 256)).set (11 : Int).toNat (csum h % 256)
theorem iout_len (h : List Int) : (iout h).length = h.length := by simp [iout]
theorem shead_f (tos id : Int) (df mf : Bool) {off : Int} (ttl proto src dst : Int) {o p : List Int} (hoff : 0 ≤ off ∧ off ≤ 65528) (ho : o.length ≤ 40) (hb : Bs o) (hp : p.length ≤ 1048576) {k : Nat} (hk : 200 ≤ k) : spec_l05Head.f k tos id df mf off ttl proto src dst o p = some (iout (ihead tos id df mf off ttl proto src dst o p)) := by
  unfold spec_l05Head.f spec_l05Flag.f
  have hl := ihead_len tos id df mf off ttl proto src dst o p
  have e2 : ∀ v, spec_l03Put.f k v 2 = some (be 2 v) := fun v => sput_f (n := 2) (by omega) (by omega)
  have e4 : ∀ v, spec_l03Put.f k v 4 = some (be 4 v) := fun v => sput_f (n := 4) (by omega) (by omega)
  have hf : wrap64 (wrap64 ((if df = true then (16384 : Int) else 0) + (if mf = true then (8192 : Int) else 0)) + wrap64 (Int.tdiv off 8)) = flg df mf off := by
    rw [td_pos _ hoff.1]
    unfold flg
    cases df <;> cases mf <;> simp only [if_true, if_false, Bool.false_eq_true, wrap64] <;> omega
  rw [wr64 (a := 20 + (o.length : Int)) (by omega), wr64 (a := 20 + (o.length : Int) + (p.length : Int)) (by omega), td_pos (a := 20 + (o.length : Int)) 4 (by omega), wr64 (a := (20 + (o.length : Int)) / 4) (by omega), wr64 (a := 64 + (20 + (o.length : Int)) / 4) (by omega)]
  simp only [e2, e4, Option.bind_some]
  rw [join_f (by simp) (by simp [be_len]) (by simp; omega) (by simp [be_len]; omega)]
  simp only [Option.bind_some]
  rw [join_f (by simp [be_len]) (by simp [be_len]) (by simp [be_len]; omega) (by simp [be_len]; omega)]
  simp only [Option.bind_some]
  rw [show ((if df = true then some (16384 : Int) else some 0) : Option Int) = some (if df = true then 16384 else 0) from by cases df <;> rfl, show ((if mf = true then some (8192 : Int) else some 0) : Option Int) = some (if mf = true then 8192 else 0) from by cases mf <;> rfl]
  simp only [Option.bind_some]
  rw [hf, join_f (by simp [be_len]) (by simp [be_len]) (by simp [be_len]; omega) (by simp [be_len]; omega)]
  simp only [Option.bind_some]
  rw [join_f (by simp [be_len]) (by simp) (by simp [be_len]; omega) (by simp; omega)]
  simp only [Option.bind_some]
  rw [join_f (by simp [be_len]) (by simp [be_len]) (by simp [be_len]; omega) (by simp [be_len]; omega)]
  simp only [Option.bind_some]
  rw [join_f (by simp [be_len]) (by simp [be_len]) (by simp [be_len]; omega) (by simp [be_len]; omega)]
  simp only [Option.bind_some]
  rw [join_f (by simp [be_len]) (by omega) (by simp [be_len]; omega) (by omega)]
  simp only [Option.bind_some]
  rw [show [(64 + (20 + (o.length : Int)) / 4) % 256, tos % 256] ++ be 2 (20 + (o.length : Int) + (p.length : Int)) ++ be 2 id ++ be 2 (flg df mf off) ++ [ttl % 256, proto % 256, 0, 0] ++ be 4 src ++ be 4 dst ++ o = ihead tos id df mf off ttl proto src dst o p from rfl, scheck_f (ihead_bytes _ _ _ _ _ _ _ _ _ _ hb) (by omega) (by omega)]
  simp only [Option.bind_some]
  rw [if_pos (by omega), if_pos (by omega)]
  rfl
def icode (tos id off ttl proto src dst : Int) (o p : List Int) : Int := if okI tos id off ttl proto src dst o then (if 20 + (o.length : Int) + (p.length : Int) > 65535 then 7 else if off + (p.length : Int) > 65535 then 7 else 0) else 1
def iall (tos id : Int) (df mf : Bool) (off ttl proto src dst : Int) (o p : List Int) : List Int × Int := if icode tos id off ttl proto src dst o p = 0 then (iout (ihead tos id df mf off ttl proto src dst o p) ++ p, 0) else ([], icode tos id off ttl proto src dst o p)
theorem icode_zero {tos id off ttl proto src dst : Int} {o p : List Int} (h : icode tos id off ttl proto src dst o p = 0) : okI tos id off ttl proto src dst o ∧ 20 + (o.length : Int) + (p.length : Int) ≤ 65535 ∧ off + (p.length : Int) ≤ 65535 := by
  unfold icode at h
  by_cases h1 : okI tos id off ttl proto src dst o
  · rw [if_pos h1] at h
    refine ⟨h1, ?_⟩
    by_cases h2 : 20 + (o.length : Int) + (p.length : Int) > 65535
    · rw [if_pos h2] at h; omega
    · by_cases h3 : off + (p.length : Int) > 65535
      · rw [if_neg h2, if_pos h3] at h; omega
      · omega
  · rw [if_neg h1] at h; omega
theorem iall_len (tos id : Int) (df mf : Bool) (off ttl proto src dst : Int) (o p : List Int) : (iall tos id df mf off ttl proto src dst o p).1.length ≤ 65535 := by
  unfold iall
  split
  · rename_i h
    have := icode_zero h
    simp only [List.length_append, iout_len, ihead_len]
    omega
  · simp
theorem sip_f (tos id : Int) (df mf : Bool) (off ttl proto src dst : Int) {o p : List Int} (hb : Bs o) (ho : o.length ≤ 1048576) (hp : p.length ≤ 1048576) {k : Nat} (hk : p.length + 300 ≤ k) : spec_EncodeIP.f k tos id df mf off ttl proto src dst o p = some (iall tos id df mf off ttl proto src dst o p) := by
  obtain ⟨k, rfl⟩ : ∃ m, k = m + 1 := ⟨k - 1, by omega⟩
  unfold spec_EncodeIP.f iall icode
  rw [okI_spec]
  simp only [Option.bind_some, decide_eq_true_eq]
  by_cases h1 : okI tos id off ttl proto src dst o
  · have h1' := h1
    unfold okI at h1'
    rw [if_pos h1, if_pos h1, wr64 (a := 20 + (o.length : Int)) (by omega), wr64 (a := 20 + (o.length : Int) + (p.length : Int)) (by omega), wr64 (a := off + (p.length : Int)) (by omega)]
    by_cases h2 : 20 + (o.length : Int) + (p.length : Int) > 65535
    · simp [h2, spec_EncodeIP.j0]
    · by_cases h3 : off + (p.length : Int) > 65535
      · simp [h2, h3, spec_EncodeIP.j0]
      · have hl := ihead_len tos id df mf off ttl proto src dst o p
        simp only [h2, h3, if_false, decide_false, spec_EncodeIP.j0, Bool.false_eq_true, if_true]
        rw [shead_f tos id df mf ttl proto src dst (by omega) (by omega) hb hp (by omega)]
        simp only [Option.bind_some]
        rw [join_f (by rw [iout_len]; omega) (by omega) (by rw [iout_len]; omega) (by omega)]
        rfl
  · rw [if_neg h1, if_neg h1]
    rfl

/-! ### ipcode -/
theorem icodeIP_f (tos id : Int) (df mf : Bool) (off ttl proto src dst : Int) {o p : List Int} (ho : o.length ≤ 1048576) (hp : p.length ≤ 1048576) : impl_codeIP.f tos id df mf off ttl proto src dst o p = some (icode tos id off ttl proto src dst o p) := by
  unfold impl_codeIP.f icode
  rw [okI_impl]
  simp only [Option.bind_some, decide_eq_true_eq]
  by_cases h1 : okI tos id off ttl proto src dst o
  · have h1' := h1
    unfold okI at h1'
    rw [if_pos h1, if_pos h1, wr64 (a := 20 + (o.length : Int)) (by omega), wr64 (a := 20 + (o.length : Int) + (p.length : Int)) (by omega), wr64 (a := off + (p.length : Int)) (by omega)]
    split
    · rfl
    · split <;> rfl
  · rw [if_neg h1, if_neg h1]

/-! ### dup -/
theorem dup_f {l : List Int} (h : l.length ≤ 1048576) : impl_dup.f l = some l := by
  unfold impl_dup.f
  rw [if_pos (by simp; omega)]
  rfl

/-! ### fragp -/
/-- How many numbers a list of packets takes. -/
def szs : List S29 → Nat
  | [] => 0
  | x :: r => 9 + x.f9.length + x.f10.length + szs r
/-- A list of packets, numbered. -/
def mkP (a : Int) : List S29 → List S29
  | [] => []
  | x :: r => ⟨a, a + 1, (Int.tmod (a + 2) 3) == 0, (Int.tmod (a + 3) 3) == 0, a + 4, a + 5, a + 6, a + 7, a + 8, mks (a + 9) x.f9.length, mks (a + 9 + x.f9.length) x.f10.length⟩ :: mkP (a + 9 + x.f9.length + x.f10.length) r
theorem mkP_len (l : List S29) : ∀ a, (mkP a l).length = l.length := by
  induction l with
  | nil => intro a; rfl
  | cons x r ih => intro a; simp [mkP, ih]
theorem rdP {d r : List S29} {x : S29} : rd_T29 (d ++ x :: r) (d.length : Int) = x := by
  unfold rd_T29
  rw [Int.toNat_natCast, List.getD_eq_getElem?_getD, List.getElem?_append_right (Nat.le_refl _), Nat.sub_self]
  rfl
theorem setP {d r : List S29} {x y : S29} : (d ++ x :: r).set d.length y = d ++ y :: r := by
  rw [List.set_append_right _ _ (Nat.le_refl _), Nat.sub_self]
  rfl
theorem wr1 {a : Int} (h : 0 ≤ a ∧ a ≤ 1099511627776) : wrap64 (a + 1) = a + 1 ∧ wrap64 (a + 1 + 1) = a + 2 ∧ wrap64 (a + 2 + 1) = a + 3 ∧ wrap64 (a + 3 + 1) = a + 4 ∧ wrap64 (a + 4 + 1) = a + 5 ∧ wrap64 (a + 5 + 1) = a + 6 ∧ wrap64 (a + 6 + 1) = a + 7 ∧ wrap64 (a + 7 + 1) = a + 8 ∧ wrap64 (a + 8 + 1) = a + 9 := by
  refine ⟨?_, ?_, ?_, ?_, ?_, ?_, ?_, ?_, ?_⟩ <;> (rw [wr64 (by omega)]; try omega)
theorem markPS_l (l : List S29) : ∀ (k : Nat) (d : List S29) (a : Int), 0 ≤ a → a + szs l ≤ 1099511600000 → d.length + l.length ≤ 1048576 → (∀ x ∈ l, x.f9.length + x.f10.length ≤ 65535) → l.length + 65600 < k → laws_markPacketS.l0 k (d ++ l) a (d.length : Int) = some (a + szs l, d ++ mkP a l) := by
  induction l with
  | nil =>
    intro k d a _ _ _ _ hk
    obtain ⟨k, rfl⟩ : ∃ m, k = m + 1 := ⟨k - 1, by omega⟩
    rw [laws_markPacketS.l0, if_neg (by simp)]
    simp [szs, mkP]
  | cons x r ih =>
    intro k d a h0 h1 hl hx hk
    obtain ⟨k, rfl⟩ : ∃ m, k = m + 1 := ⟨k - 1, by omega⟩
    have hx0 := hx x List.mem_cons_self
    simp only [List.length_cons] at hl hk
    have hs : (szs (x :: r) : Int) = 9 + x.f9.length + x.f10.length + szs r := by simp [szs]
    rw [hs] at h1 ⊢
    obtain ⟨e1, e2, e3, e4, e5, e6, e7, e8, e9⟩ := wr1 (a := a) ⟨h0, by omega⟩
    rw [laws_markPacketS.l0, if_pos (by simp; omega), if_pos (by omega), rdP, e1, e2, e3, e4, e5, e6, e7, e8, e9, markB_f (by omega) (by omega) (by omega), Option.bind_some, markB_f (by omega) (by omega) (by omega), Option.bind_some, Int.toNat_natCast, setP, wr64 (a := (d.length : Int) + 1) (by omega)]
    have := ih k (d ++ [⟨a, a + 1, (Int.tmod (a + 2) 3) == 0, (Int.tmod (a + 3) 3) == 0, a + 4, a + 5, a + 6, a + 7, a + 8, mks (a + 9) x.f9.length, mks (a + 9 + x.f9.length) x.f10.length⟩]) (a + 9 + x.f9.length + x.f10.length) (by omega) (by omega) (by simp; omega) (fun y hy => hx y (List.mem_cons_of_mem _ hy)) (by omega)
    simp only [List.append_assoc, List.cons_append, List.nil_append, List.length_append, List.length_cons, List.length_nil] at this
    rw [show ((d.length : Int) + 1) = ((d.length + (0 + 1) : Nat) : Int) by omega]
    rw [this, mkP]
    congr 2
    omega
theorem markPS_f {l : List S29} (h1 : szs l ≤ 1099511599999) (hl : l.length ≤ 1048576) (hx : ∀ x ∈ l, x.f9.length + x.f10.length ≤ 65535) {k : Nat} (hk : l.length + 65600 < k) : laws_markPacketS.f k l 1 = some (1 + (szs l : Int), mkP 1 l) := by
  have := markPS_l l k [] 1 (by omega) (by omega) (by simpa using hl) hx hk
  simpa [laws_markPacketS.f] using this
theorem heldPS_l (l : List S29) : ∀ (k : Nat) (d : List S29) (a : Int), 0 ≤ a → a + szs l ≤ 1099511600000 → d.length + l.length ≤ 1048576 → (∀ x ∈ l, x.f9.length + x.f10.length ≤ 65535) → l.length + 65600 < k → laws_heldPacketS.l0 k (d ++ mkP a l) a (d.length : Int) = some (a + szs l) := by
  induction l with
  | nil =>
    intro k d a _ _ _ _ hk
    obtain ⟨k, rfl⟩ : ∃ m, k = m + 1 := ⟨k - 1, by omega⟩
    rw [laws_heldPacketS.l0, if_neg (by simp [mkP])]
    simp [szs]
  | cons x r ih =>
    intro k d a h0 h1 hl hx hk
    obtain ⟨k, rfl⟩ : ∃ m, k = m + 1 := ⟨k - 1, by omega⟩
    have hx0 := hx x List.mem_cons_self
    simp only [List.length_cons] at hl hk
    have hs : (szs (x :: r) : Int) = 9 + x.f9.length + x.f10.length + szs r := by simp [szs]
    rw [hs] at h1 ⊢
    obtain ⟨e1, e2, e3, e4, e5, e6, e7, e8, e9⟩ := wr1 (a := a) ⟨h0, by omega⟩
    rw [mkP, laws_heldPacketS.l0, if_pos (by simp; omega), if_pos (by omega), rdP, e1, e2, e3, e4, e5, e6, e7, e8, e9]
    rw [if_pos rfl, if_pos rfl, if_neg (by simp), if_neg (by simp), if_pos rfl, if_pos rfl, if_pos rfl, if_pos rfl, if_pos rfl, heldB_f (by omega) (by omega) (by omega), Option.bind_some, if_neg (by omega), heldB_f (by omega) (by omega) (by omega), Option.bind_some, if_neg (by omega), wr64 (a := (d.length : Int) + 1) (by omega)]
    have := ih k (d ++ [⟨a, a + 1, (Int.tmod (a + 2) 3) == 0, (Int.tmod (a + 3) 3) == 0, a + 4, a + 5, a + 6, a + 7, a + 8, mks (a + 9) x.f9.length, mks (a + 9 + x.f9.length) x.f10.length⟩]) (a + 9 + x.f9.length + x.f10.length) (by omega) (by omega) (by simp; omega) (fun y hy => hx y (List.mem_cons_of_mem _ hy)) (by omega)
    simp only [List.append_assoc, List.cons_append, List.nil_append, List.length_append, List.length_cons, List.length_nil] at this
    rw [show ((d.length : Int) + 1) = ((d.length + (0 + 1) : Nat) : Int) by omega]
    rw [this]
    congr 1
    omega
theorem heldPS_f {l : List S29} (h1 : szs l ≤ 1099511599999) (hl : l.length ≤ 1048576) (hx : ∀ x ∈ l, x.f9.length + x.f10.length ≤ 65535) {k : Nat} (hk : l.length + 65600 < k) : laws_heldPacketS.f k (mkP 1 l) 1 = some (1 + (szs l : Int)) := by
  have := heldPS_l l k [] 1 (by omega) (by omega) (by simpa using hl) hx hk
  simpa [laws_heldPacketS.f] using this
theorem szs_le (l : List S29) (hx : ∀ x ∈ l, x.f9.length + x.f10.length ≤ 65535) : szs l ≤ l.length * 65544 := by
  induction l with
  | nil => simp [szs]
  | cons x r ih =>
    have := ih (fun y hy => hx y (List.mem_cons_of_mem _ hy))
    have := hx x List.mem_cons_self
    simp only [szs, List.length_cons]
    omega
theorem eqPS_l (l : List S29) (hl : l.length ≤ 1048576) (hx : ∀ x ∈ l, x.f9.length + x.f10.length ≤ 65535) (d : Nat) : ∀ (k i : Nat), i + d = l.length → d + 65600 < k → laws_eqPacketS.l0 k l l (i : Int) = some true := by
  induction d with
  | zero =>
    intro k i hi hk
    obtain ⟨k, rfl⟩ : ∃ m, k = m + 1 := ⟨k - 1, by omega⟩
    rw [laws_eqPacketS.l0, if_neg (by omega)]
  | succ d ih =>
    intro k i hi hk
    obtain ⟨k, rfl⟩ : ∃ m, k = m + 1 := ⟨k - 1, by omega⟩
    have hr : rd_T29 l (i : Int) = l[i] := by
      unfold rd_T29
      rw [Int.toNat_natCast, List.getD_eq_getElem?_getD, List.getElem?_eq_getElem (show i < l.length by omega)]
      rfl
    have := hx l[i] (List.getElem_mem _)
    rw [laws_eqPacketS.l0, if_pos (by omega), if_pos (by omega), if_pos (by omega), hr, eqP_same _ _ _ _ _ _ _ _ _ _ _ (by omega) (by omega), Option.bind_some, if_pos rfl, wr_succ (n := l.length) (by omega) (by omega)]
    exact ih k (i + 1) (by omega) (by omega)
theorem eqPS_f {l : List S29} (hl : l.length ≤ 1048576) (hx : ∀ x ∈ l, x.f9.length + x.f10.length ≤ 65535) {k : Nat} (hk : l.length + 65600 < k) : laws_eqPacketS.f k l l = some true := by
  unfold laws_eqPacketS.f
  rw [if_pos rfl]
  exact eqPS_l l hl hx l.length k 0 (by omega) hk
/-- What is asked of the answer's list. -/
def okL (l : List S29) : Prop := ∀ x ∈ l, x.f9.length + x.f10.length ≤ 65535
theorem okL_snoc {l : List S29} {x : S29} (h : okL l) (hx : x.f9.length + x.f10.length ≤ 65535) : okL (l ++ [x]) := by
  intro y hy
  rcases List.mem_append.1 hy with hy | hy
  · exact h y hy
  · rw [List.mem_singleton.1 hy]; exact hx
theorem spec_done (n : Int) (acc : List S29) (at_ tos id : Int) (df mf : Bool) (off ttl proto src dst : Int) (o p : List Int) {k : Nat} (hk : 0 < k) (h : ¬ at_ < (p.length : Int)) : spec_Fragment.l0 k n acc at_ tos id df mf off ttl proto src dst o p = some (acc, 0) := by
  obtain ⟨k, rfl⟩ : ∃ m, k = m + 1 := ⟨k - 1, by omega⟩
  rw [spec_Fragment.l0, if_neg h]
theorem frag_l (n : Nat) (hn : 8 ≤ n ∧ n ≤ 70000) (tos id : Int) (df mf : Bool) (off ttl proto src dst : Int) (o p : List Int) (ho : o.length ≤ 40) (hp : o.length + p.length ≤ 65535) (hoff : 0 ≤ off ∧ off ≤ 65528) (d : Nat) : ∀ (k i : Nat) (acc : List S29), i < p.length → p.length ≤ i + d → d + 66000 < k → acc.length + d ≤ 65536 → okL acc →
    ∃ r, impl_Fragment.l0 k acc (n : Int) (i : Int) tos id df mf off ttl proto src dst o p = some (r, 0) ∧ spec_Fragment.l0 k (n : Int) acc (i : Int) tos id df mf off ttl proto src dst o p = some (r, 0) ∧ r.length ≤ 65536 ∧ okL r := by
  induction d with
  | zero => intro k i acc h1 h2; omega
  | succ d ih =>
    intro k i acc h1 h2 hk hacc hok
    obtain ⟨k, rfl⟩ : ∃ m, k = m + 1 := ⟨k - 1, by omega⟩
    have w1 : wrap64 ((p.length : Int) - (i : Int)) = ((p.length - i : Nat) : Int) := by rw [wr64 (by omega)]; omega
    have w2 : wrap64 ((i : Int) + (n : Int)) = ((i + n : Nat) : Int) := by rw [wr64 (by omega)]; omega
    rw [impl_Fragment.l0, spec_Fragment.l0, w1, w2]
    clear w1 w2
    rw [dup_f (by omega), Option.bind_some, if_pos (show (i : Int) < (p.length : Int) by omega)]
    unfold spec_l06CopyPacket.f
    rw [copy_f (by omega) (by omega), Option.bind_some, copy_f (by omega) (by omega), Option.bind_some, Option.bind_some]
    by_cases c : p.length - i ≤ n
    · rw [if_pos (show ((p.length - i : Nat) : Int) ≤ (n : Int) by omega), if_neg (show ¬ ((i + n : Nat) : Int) < (p.length : Int) by omega), if_pos (show (0 : Int) ≤ (i : Int) by omega), if_pos (show (0 : Int) ≤ (i : Int) by omega), if_pos (show (i : Int) ≤ (p.length : Int) by omega), if_pos (show (i : Int) ≤ (p.length : Int) by omega), Int.toNat_natCast, dup_f (by rw [List.length_drop]; omega), Option.bind_some, copy_f (by rw [List.length_drop]; omega) (by rw [List.length_drop]; omega), Option.bind_some, if_pos (by omega), if_pos (by omega), spec_done _ _ _ _ _ _ _ _ _ _ _ _ _ _ (by omega) (by omega)]
      refine ⟨_, rfl, rfl, by simp; omega, okL_snoc hok ?_⟩
      show o.length + (p.drop i).length ≤ 65535
      rw [List.length_drop]
      omega
    · rw [if_neg (show ¬ ((p.length - i : Nat) : Int) ≤ (n : Int) by omega), if_pos (show ((i + n : Nat) : Int) < (p.length : Int) by omega), if_pos (show (0 : Int) ≤ (i : Int) by omega), if_pos (show (0 : Int) ≤ (i : Int) by omega), if_pos (show (i : Int) ≤ ((i + n : Nat) : Int) by omega), if_pos (show (i : Int) ≤ ((i + n : Nat) : Int) by omega), if_pos (show ((i + n : Nat) : Int) ≤ (p.length : Int) by omega), if_pos (show ((i + n : Nat) : Int) ≤ (p.length : Int) by omega), Int.toNat_natCast, Int.toNat_natCast]
      have hl : ((p.take (i + n)).drop i).length = n := by rw [List.length_drop, List.length_take]; omega
      rw [dup_f (by omega), Option.bind_some, copy_f (by omega) (by omega), Option.bind_some, if_pos (by omega), if_pos (by omega)]
      refine ih k (i + n) _ (by omega) (by omega) (by omega) (by simp; omega) (okL_snoc hok ?_)
      show o.length + ((p.take (i + n)).drop i).length ≤ 65535
      omega
theorem frag_f (tos id : Int) (df mf : Bool) (off ttl proto src dst : Int) {o p : List Int} (hb : Bs o) (h : o.length + p.length ≤ 1048576) (mtu : Int) {k : Nat} (hk : 2000000 < k) : ∃ r c, impl_Fragment.f k tos id df mf off ttl proto src dst o p mtu = some (r, c) ∧ spec_Fragment.f k tos id df mf off ttl proto src dst o p mtu = some (r, c) ∧ r.length ≤ 65536 ∧ okL r := by
  obtain ⟨k, rfl⟩ : ∃ m, k = m + 1 + 1 := ⟨k - 2, by omega⟩
  have no : okL [] := fun _ hx => by cases hx
  have hI : ∀ b : Bool, b = true → impl_Fragment.j0 (k + 1 + 1) mtu b tos id df mf off ttl proto src dst o p = some ([], 1) := fun b hb => by rw [impl_Fragment.j0, if_pos hb]
  have hS : ∀ b : Bool, b = true → spec_Fragment.j0 (k + 1 + 1) mtu b tos id df mf off ttl proto src dst o p = some ([], 1) := fun b hb => by rw [spec_Fragment.j0, if_pos hb]
  unfold impl_Fragment.f spec_Fragment.f
  rw [icodeIP_f _ _ _ _ _ _ _ _ _ (by omega) (by omega), sip_f _ _ _ _ _ _ _ _ _ hb (by omega) (by omega) (by omega), Option.bind_some, Option.bind_some]
  unfold iall
  by_cases c0 : icode tos id off ttl proto src dst o p = 0
  · obtain ⟨hok, hsz, hof⟩ := icode_zero c0
    have hok2 := hok
    unfold okI at hok2
    rw [if_pos c0, if_pos c0, if_pos rfl]
    by_cases m0 : mtu < 68
    · rw [if_pos m0, if_pos m0, hI _ rfl, hS _ rfl]
      exact ⟨_, _, rfl, rfl, by simp, no⟩
    · rw [if_neg m0, if_neg m0]
      by_cases m1 : mtu > 65535
      · rw [hI _ (decide_eq_true m1), hS _ (decide_eq_true m1)]
        exact ⟨_, _, rfl, rfl, by simp, no⟩
      · rw [decide_eq_false m1, impl_Fragment.j0, spec_Fragment.j0, if_neg (show ¬ (false = true) by simp), if_neg (show ¬ (false = true) by simp)]
        have hps : impl_PacketSize.f tos id df mf off ttl proto src dst o p = some (20 + (o.length : Int) + (p.length : Int)) := by
          unfold impl_PacketSize.f
          rw [okI_impl, Option.bind_some, decide_eq_true hok, if_pos rfl, wr64 (a := 20 + (o.length : Int)) (by omega), wr64 (by omega)]
        have hss : spec_PacketSize.f tos id df mf off ttl proto src dst o p = some (20 + (o.length : Int) + (p.length : Int)) := by
          unfold spec_PacketSize.f
          rw [okI_spec, Option.bind_some, decide_eq_true hok, if_pos rfl, wr64 (a := 20 + (o.length : Int)) (by omega), wr64 (by omega)]
        rw [hps, hss, Option.bind_some, Option.bind_some]
        by_cases c1 : 20 + (o.length : Int) + (p.length : Int) ≤ mtu
        · rw [if_pos c1, if_pos c1]
          unfold impl_ownPacket.f spec_l06CopyPacket.f
          rw [dup_f (by omega), dup_f (by omega), copy_f (by omega) (by omega), copy_f (by omega) (by omega)]
          refine ⟨_, _, rfl, rfl, by simp, fun x hx => ?_⟩
          rw [List.mem_singleton.1 hx]
          show o.length + p.length ≤ 65535
          omega
        · rw [if_neg c1, if_neg c1, wr64 (a := mtu - 20) (by omega), wr64 (a := mtu - 20 - (o.length : Int)) (by omega), td_pos 8 (show 0 ≤ mtu - 20 - (o.length : Int) by omega), wr64 (a := (mtu - 20 - (o.length : Int)) / 8) (by omega), wr64 (a := (mtu - 20 - (o.length : Int)) / 8 * 8) (by omega)]
          have d0 : decide (mtu - 20 - (o.length : Int) < 8) = false := decide_eq_false (by omega)
          have d1 : decide ((mtu - 20 - (o.length : Int)) / 8 * 8 < 8) = false := decide_eq_false (by omega)
          rw [d0, d1]
          cases df with
          | true =>
            rw [if_pos (show true = true from rfl), if_pos (show true = true from rfl), impl_Fragment.j1, spec_Fragment.j1, if_pos (show true = true from rfl), if_pos (show true = true from rfl)]
            exact ⟨_, _, rfl, rfl, by simp, no⟩
          | false =>
            rw [if_neg (show ¬ (false = true) by simp), if_neg (show ¬ (false = true) by simp), impl_Fragment.j1, spec_Fragment.j1, if_neg (show ¬ (false = true) by simp), if_neg (show ¬ (false = true) by simp), td_pos 8 (show 0 ≤ mtu - 20 - (o.length : Int) by omega), wr64 (a := (mtu - 20 - (o.length : Int)) / 8) (by omega), wr64 (a := (mtu - 20 - (o.length : Int)) / 8 * 8) (by omega)]
            obtain ⟨n, hn⟩ := Int.eq_ofNat_of_zero_le (show 0 ≤ (mtu - 20 - (o.length : Int)) / 8 * 8 by omega)
            rw [hn]
            obtain ⟨r, h1, h2, h3, h4⟩ := frag_l n (by omega) tos id false mf off ttl proto src dst o p (by omega) (by omega) (by omega) p.length k 0 [] (by omega) (by omega) (by omega) (by simp; omega) no
            exact ⟨r, 0, h1, h2, h3, h4⟩
  · have e : ((if icode tos id off ttl proto src dst o p = 0 then (iout (ihead tos id df mf off ttl proto src dst o p) ++ p, (0 : Int)) else ([], icode tos id off ttl proto src dst o p)) : List Int × Int).2 ≠ 0 := by rw [if_neg c0]; exact c0
    rw [if_neg c0, if_neg e, hI _ rfl, hS _ rfl]
    exact ⟨_, _, rfl, rfl, by simp, no⟩

/-! ### the law -/
theorem FnExactFragment (tos id : Int) (df mf : Bool) (off ttl proto src dst : Int) (o p : List Int) (mtu : Int) (w0 : (Lit.int .i64 tos).wf = true) (w1 : (Lit.int .i64 id).wf = true) (w4 : (Lit.int .i64 off).wf = true) (w5 : (Lit.int .i64 ttl).wf = true) (w6 : (Lit.int .i64 proto).wf = true) (w7 : (Lit.int .i64 src).wf = true) (w8 : (Lit.int .i64 dst).wf = true) (ho : o.length ≤ maxLen) (how : ∀ x ∈ o, (Lit.int .u8 x).wf = true) (hp : p.length ≤ maxLen) (hpw : ∀ x ∈ p, (Lit.int .u8 x).wf = true) (w9 : (Lit.int .i64 mtu).wf = true) : ∃ k, laws_FnExactFragment.f k tos id df mf off ttl proto src dst o p mtu = some true := by
  obtain ⟨r, hr, hc⟩ := szP_f tos id df mf off ttl proto src dst o p (len_of ho) (len_of hp)
  by_cases hn : r < 0
  · refine ⟨0, ?_⟩
    unfold laws_FnExactFragment.f
    rw [if_pos]
    exact ⟨r, hr, Or.inl hn⟩
  · have hc := hc hn
    obtain ⟨k, hk⟩ : ∃ k, k = 3000000 := ⟨_, rfl⟩
    refine ⟨k, ?_⟩
    obtain ⟨gs, c, h1, h2, h3, h4⟩ := frag_f tos id df mf off ttl proto src dst (Bs.of how) hc mtu (k := k) (by omega)
    have hs := szs_le gs h4
    unfold laws_FnExactFragment.f
    rw [if_pos]
    refine ⟨r, hr, Or.inr ⟨by omega, gs, gs, mkP 1 gs, c, (1 : Int) + (o.length : Int) + (p.length : Int), 1 + (szs gs : Int), mks 1 o.length, mks (1 + (o.length : Int)) p.length, toP_f _ _ _ _ _ _ _ _ _ o p hc (by omega), h2, h1, eqPS_f (by omega) h4 (by omega), eqP_same _ _ _ _ _ _ _ _ _ o p (by omega) (by omega), ?_, by omega, markPS_f (by omega) (by omega) h4 (by omega), heldPS_f (by omega) (by omega) h4 (by omega), by omega⟩⟩
    unfold laws_markPacket.f
    rw [markB_f (by omega) (by omega) (by omega)]
    simp only [Option.bind_some]
    rw [markB_f (by omega) (by omega) (by omega)]
    rfl

end Go.Proofs.Ytcapkpbjppenpaa.Pure
