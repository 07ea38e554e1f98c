/- EncodeIcmp of the program returns what EncodeIcmp of the reference returns, for all arguments, leaves its argument as it was, and its answer owns its memory; without conditions. -/
import Derived.Test.YtdigkdoihfpdgaaPFnExactEncodeIcmpx5
set_option linter.unusedVariables false
set_option linter.unusedSimpArgs false
namespace Go.Proofs.Ytdigkdoihfpdgaa.Pure
open Go.RowKit Go.Proofs.Ytdigkdoihfpdgaa.PFnExactEncodeIcmp Go.Proofs.YtdigkdoihfpdgaaW.PrintWords Go.Proofs.YtdigkdoihfpdgaaW.PrintLast

/-! ### base -/
theorem wf64 {a : Int} (h : (Lit.int .i64 a).wf = true) : -9223372036854775808 ≤ a ∧ a ≤ 9223372036854775807 := by
  have h1 : IntKind.i64.min = -9223372036854775808 := by decide
  have h2 : IntKind.i64.max = 9223372036854775807 := by decide
  simp only [Lit.wf, Bool.and_eq_true, decide_eq_true_eq] at h
  omega
theorem tm_pos {a : Int} (n : Int) (h : 0 ≤ a) : Int.tmod a n = a % n := Int.tmod_eq_emod_of_nonneg h
theorem tm_neg {a : Int} (n : Int) (h : a ≤ 0) : Int.tmod a n = -((-a) % n) := by
  have := Int.neg_tmod (-a) n
  rw [Int.neg_neg] at this
  rw [this, Int.tmod_eq_emod_of_nonneg (by omega)]
theorem td_pos {a : Int} (n : Int) (h : 0 ≤ a) : Int.tdiv a n = a / n := Int.tdiv_eq_ediv_of_nonneg h
theorem wr64 {a : Int} (h : -9223372036854775808 ≤ a ∧ a ≤ 9223372036854775807) : wrap64 a = a := by
  unfold wrap64
  omega
theorem dec_eq {p : Prop} [Decidable p] {b : Bool} (h : b = true ↔ p) : some b = some (decide p) := by
  rw [Option.some.injEq, Bool.eq_iff_iff, decide_eq_true_eq]
  exact h
theorem ite_dec (p q : Prop) [Decidable p] [Decidable q] : (if p then some (decide q) else some false) = some (decide (p ∧ q)) := by
  by_cases h : p <;> simp [h]
theorem beq_dec (a b : Int) : (a == b) = decide (a = b) := by
  rw [Bool.eq_iff_iff]
  simp

/-! ### bits -/
theorem wraps_i64 (n : Int) (h₀ : 0 ≤ n) (h₁ : n < 2 ^ 63) : IntKind.i64.wrap n = n := by rw [IntKind.wrap_i64]; omega
/-- The low bits of any whole number. -/
theorem and_low (i : Nat) (hi : i ≤ 62) (x : Int) : Go.bits .and .i64 x (2 ^ i - 1) = x % 2 ^ i := by
  have hpos : 0 < 2 ^ i := Nat.two_pow_pos i
  have h62 : 2 ^ i ≤ 2 ^ 62 := Nat.pow_le_pow_right (by decide) hi
  have hc : ((2 : Int) ^ i - 1) = ((2 ^ i - 1 : Nat) : Int) := by
    rw [Int.natCast_sub hpos]; simp
  have hx0 : 0 ≤ x % 18446744073709551616 := Int.emod_nonneg _ (by decide)
  have hx : (BitVec.ofInt 64 x).toNat = (x % 18446744073709551616).toNat := by rw [BitVec.toNat_ofInt]; rfl
  have hd : ((2 : Int) ^ i) ∣ 18446744073709551616 := by
    rw [show (18446744073709551616 : Int) = 2 ^ 64 from rfl]
    exact ⟨2 ^ (64 - i), by rw [← Int.pow_add, show i + (64 - i) = 64 from by omega]⟩
  have h2 : ((x % 18446744073709551616).toNat % 2 ^ i : Nat) = (x % 2 ^ i).toNat := by
    apply Int.ofNat.inj
    have e1 : (((x % 18446744073709551616).toNat % 2 ^ i : Nat) : Int) = x % 2 ^ i := by
      rw [Int.natCast_emod, Int.toNat_of_nonneg hx0, Int.natCast_pow]
      exact Int.emod_emod_of_dvd _ hd
    have e2 : 0 ≤ x % 2 ^ i := Int.emod_nonneg _ (by have : (0 : Int) < 2 ^ i := Int.pow_pos (by decide); omega)
    exact e1.trans (Int.toNat_of_nonneg e2).symm
  have e2 : 0 ≤ x % 2 ^ i := Int.emod_nonneg _ (by have : (0 : Int) < 2 ^ i := Int.pow_pos (by decide); omega)
  have e3 : x % 2 ^ i < 2 ^ i := Int.emod_lt_of_pos _ (Int.pow_pos (by decide))
  have e4 : (2 : Int) ^ i ≤ 2 ^ 62 := by exact_mod_cast h62
  have key : Go.bits .and .i64 x (2 ^ i - 1) = IntKind.i64.wrap (((BitVec.ofInt 64 x).toNat &&& (BitVec.ofInt 64 ((2 ^ i - 1 : Nat) : Int)).toNat : Nat) : Int) := by
    rw [hc]
    show IntKind.i64.wrap ((BitVec.ofInt 64 x &&& BitVec.ofInt 64 ((2 ^ i - 1 : Nat) : Int)).toNat : Int) = _
    rw [BitVec.toNat_and]
  rw [key, hx]
  have hm : (BitVec.ofInt 64 ((2 ^ i - 1 : Nat) : Int)).toNat = 2 ^ i - 1 := by
    rw [BitVec.ofInt_natCast, BitVec.toNat_ofNat]
    exact Nat.mod_eq_of_lt (by omega)
  rw [hm, Nat.and_two_pow_sub_one_eq_mod, h2, Int.toNat_of_nonneg e2]
  exact wraps_i64 _ e2 (by omega)
theorem and_65535 (x : Int) : Go.bits .and .i64 x 65535 = x % 65536 := and_low 16 (by decide) x
theorem and_255 (x : Int) : Go.bits .and .i64 x 255 = x % 256 := and_low 8 (by decide) x
theorem nat_and_high (a n : Nat) (ha : a < 2 ^ 32) (hn : n ≤ 32) : a &&& ((2 ^ (32 - n) - 1) * 2 ^ n) = a / 2 ^ n * 2 ^ n := by
  apply Nat.eq_of_testBit_eq
  intro i
  rw [Nat.testBit_and, Nat.testBit_mul_two_pow, Nat.testBit_mul_two_pow, Nat.testBit_div_two_pow, Nat.testBit_two_pow_sub_one]
  by_cases h : n ≤ i
  · simp only [h, decide_true, Bool.true_and]
    rw [show i - n + n = i from by omega]
    by_cases h3 : i - n < 32 - n
    · simp [h3]
    · have : a.testBit i = false := Nat.testBit_lt_two_pow (Nat.lt_of_lt_of_le ha (Nat.pow_le_pow_right (by decide) (by omega)))
      simp [this]
  · simp [h]
theorem and_high (a : Int) (n : Nat) (h0 : 0 ≤ a) (h1 : a ≤ 4294967295) (hn : n ≤ 32) : Go.bits .and .i64 a ((2 ^ (32 - n) - 1) * 2 ^ n) = a / 2 ^ n * 2 ^ n := by
  obtain ⟨b, rfl⟩ := Int.eq_ofNat_of_zero_le h0
  have hc : (((2 : Int) ^ (32 - n) - 1) * 2 ^ n) = (((2 ^ (32 - n) - 1) * 2 ^ n : Nat) : Int) := by
    rw [Int.natCast_mul, Int.natCast_sub (Nat.two_pow_pos _)]; simp
  have hl : (2 ^ (32 - n) - 1) * 2 ^ n ≤ 4294967295 := by
    rw [Nat.sub_mul, ← Nat.pow_add, show 32 - n + n = 32 from by omega]
    have := Nat.two_pow_pos n
    omega
  rw [hc, (bits_nat .i64 63 (by decide) wraps_i64 b _ (by omega) (by omega)).1, nat_and_high b n (by omega) hn]
  simp

/-! ### addr0 -/
theorem in_f (a l h : Int) : spec_l01In.f a l h = some (decide (l ≤ a ∧ a ≤ h)) := by
  unfold spec_l01In.f
  by_cases h1 : a ≥ l
  · rw [if_pos h1]; congr 1; rw [decide_eq_decide]; omega
  · rw [if_neg h1]; congr 1; rw [eq_comm, decide_eq_false_iff_not]; omega

/-! ### lists -/
theorem rd_at {xs : List Int} {i : Nat} (h : i < xs.length) : rd xs (i : Int) = xs[i] := by
  unfold rd
  rw [Int.toNat_natCast, List.getD_eq_getElem?_getD, List.getElem?_eq_getElem h]
  rfl
theorem wr_succ {i n : Nat} (h : i < n) (hn : n ≤ 281474976710656) : wrap64 ((i : Int) + 1) = ((i + 1 : Nat) : Int) := by
  rw [wr64 (by omega)]
  omega
theorem maxLen_le {n : Nat} (h : n ≤ 1048576) : n ≤ 281474976710656 := by omega

/-! ### tobytes -/
theorem toB_l (x0 : List Int) (hn : x0.length ≤ 281474976710656) (d : Nat) : ∀ (k i : Nat) (x3 : List Int), i + d = x0.length → d < k → x3.length = x0.length → (∀ j, j < i → x3[j]? = x0[j]?) → laws_toByteS.l0 k x0 x3 (i : Int) = some x0 := by
  induction d with
  | zero =>
    intro k i x3 hi hk hl he
    obtain ⟨k, rfl⟩ : ∃ m, k = m + 1 := ⟨k - 1, by omega⟩
    simp only [laws_toByteS.l0]
    rw [if_neg (by omega)]
    congr 1
    apply List.ext_getElem?
    intro j
    by_cases hj : j < i
    · exact he j hj
    · rw [List.getElem?_eq_none (by omega), List.getElem?_eq_none (by omega)]
  | succ d ih =>
    intro k i x3 hi hk hl he
    obtain ⟨k, rfl⟩ : ∃ m, k = m + 1 := ⟨k - 1, by omega⟩
    simp only [laws_toByteS.l0]
    rw [if_pos (by omega), if_pos (by omega), if_pos (by omega), wr_succ (n := x0.length) (by omega) hn]
    refine ih k (i + 1) _ (by omega) (by omega) (by simp [hl]) ?_
    intro j hj
    rw [Int.toNat_natCast]
    by_cases e : j = i
    · subst e
      rw [List.getElem?_set_self (by omega), rd_at (by omega), List.getElem?_eq_getElem (by omega)]
    · rw [List.getElem?_set_ne (by omega)]
      exact he j (by omega)
theorem toB_f {l : List Int} (hn : l.length ≤ 281474976710656) {k : Nat} (hk : l.length < k) : laws_toByteS.f k l = some l := by
  unfold laws_toByteS.f
  rw [if_pos (by omega), if_pos (by simpa using hn), Int.toNat_natCast]
  exact toB_l l hn l.length k 0 _ (by omega) hk (by simp) (fun j hj => absurd hj (by omega))

/-! ### eqbytes -/
theorem eqB_l (x0 x1 : List Int) (hn : x0.length ≤ 281474976710656) (hl : x0.length = x1.length) (d : Nat) : ∀ (k i : Nat), i + d = x0.length → d < k → (∀ j, j < i → x0[j]? = x1[j]?) → laws_eqByteS.l0 k x0 x1 (i : Int) = some (decide (x0 = x1)) := by
  induction d with
  | zero =>
    intro k i hi hk he
    obtain ⟨k, rfl⟩ : ∃ m, k = m + 1 := ⟨k - 1, by omega⟩
    simp only [laws_eqByteS.l0]
    rw [if_neg (by omega)]
    have : x0 = x1 := by
      apply List.ext_getElem?
      intro j
      by_cases hj : j < i
      · exact he j hj
      · rw [List.getElem?_eq_none (by omega), List.getElem?_eq_none (by omega)]
    simp [this]
  | succ d ih =>
    intro k i hi hk he
    obtain ⟨k, rfl⟩ : ∃ m, k = m + 1 := ⟨k - 1, by omega⟩
    simp only [laws_eqByteS.l0]
    rw [if_pos (by omega), if_pos (by omega), if_pos (by omega), wr_succ (n := x0.length) (by omega) hn, rd_at (by omega), rd_at (by omega)]
    by_cases e : x0[i] = x1[i]
    · rw [if_pos e]
      refine ih k (i + 1) (by omega) (by omega) ?_
      intro j hj
      by_cases ej : j = i
      · subst ej
        rw [List.getElem?_eq_getElem (by omega), List.getElem?_eq_getElem (by omega), e]
      · exact he j (by omega)
    · rw [if_neg e]
      have : x0 ≠ x1 := fun h => by
        subst h
        exact e rfl
      simp [this]
theorem eqB_f {l m : List Int} (hn : l.length ≤ 281474976710656) {k : Nat} (hk : l.length < k) : laws_eqByteS.f k l m = some (decide (l = m)) := by
  unfold laws_eqByteS.f
  by_cases h : l.length = m.length
  · rw [if_pos (by omega)]
    exact eqB_l l m hn h l.length k 0 (by omega) hk (fun j hj => absurd hj (by omega))
  · rw [if_neg (by omega)]
    have : l ≠ m := fun e => h (by rw [e])
    simp [this]

/-! ### szbytes -/
theorem szB_f {l : List Int} {a : Int} (ha : 0 ≤ a ∧ a ≤ 1048576) (hl : l.length ≤ 9223372036854775807) : laws_szByteS.f l a = some (if (l.length : Int) > a then -1 else a - (l.length : Int)) := by
  unfold laws_szByteS.f
  rw [wr64 (by omega)]
  by_cases h : (l.length : Int) > a
  · rw [if_pos (by omega), if_pos h]
  · rw [if_neg (by omega), if_neg h]
theorem len_of {l : List Int} (h : l.length ≤ maxLen) : l.length ≤ 9223372036854775807 := by
  unfold maxLen at h
  exact h

/-! ### marks -/
/-- n marks from a number on. -/
def mks (a : Int) : Nat → List Int
  | 0 => []
  | n + 1 => mks a n ++ [(a + n) % 256]
theorem mks_len (a : Int) (n : Nat) : (mks a n).length = n := by
  induction n with
  | zero => rfl
  | succ n ih => simp [mks, ih]
theorem mks_at (a : Int) (n : Nat) : ∀ j, j < n → (mks a n)[j]? = some ((a + j) % 256) := by
  induction n with
  | zero => intro j h; omega
  | succ n ih =>
    intro j h
    unfold mks
    by_cases e : j < n
    · rw [List.getElem?_append_left (by rw [mks_len]; exact e)]
      exact ih j e
    · obtain rfl : j = n := by omega
      rw [List.getElem?_append_right (by rw [mks_len]; exact Nat.le_refl _), mks_len]
      simp
theorem markB_l (n : Nat) (a : Int) (ha : 0 ≤ a ∧ a ≤ 1099511627776) (hn : n ≤ 1099511627776) (d : Nat) : ∀ (k i : Nat) (x0 : List Int), x0.length = n → i + d = n → d < k → (∀ j, j < i → x0[j]? = some ((a + j) % 256)) → laws_markByteS.l0 k x0 (a + i) (i : Int) = some (a + n, mks a n) := by
  induction d with
  | zero =>
    intro k i x0 hl hi hk he
    obtain ⟨k, rfl⟩ : ∃ m, k = m + 1 := ⟨k - 1, by omega⟩
    simp only [laws_markByteS.l0]
    rw [if_neg (by omega)]
    congr 1
    rw [Prod.mk.injEq]
    refine ⟨by omega, ?_⟩
    apply List.ext_getElem?
    intro j
    by_cases hj : j < n
    · rw [he j (by omega), mks_at _ _ _ hj]
    · rw [List.getElem?_eq_none (by omega), List.getElem?_eq_none (by rw [mks_len]; omega)]
  | succ d ih =>
    intro k i x0 hl hi hk he
    obtain ⟨k, rfl⟩ : ∃ m, k = m + 1 := ⟨k - 1, by omega⟩
    simp only [laws_markByteS.l0]
    rw [if_pos (by omega), if_pos (by omega), wr64 (a := (i : Int) + 1) (by omega), wr64 (by omega), show a + (i : Int) + 1 = a + ((i + 1 : Nat) : Int) from by omega, show (i : Int) + 1 = ((i + 1 : Nat) : Int) from by omega, Int.toNat_natCast]
    refine ih k (i + 1) _ (by simp [hl]) (by omega) (by omega) ?_
    intro j hj
    by_cases e : j = i
    · subst e
      rw [List.getElem?_set_self (by omega)]
    · rw [List.getElem?_set_ne (by omega)]
      exact he j (by omega)
theorem markB_f {l : List Int} {a : Int} (ha : 0 ≤ a ∧ a ≤ 1099511627776) (hn : l.length ≤ 1099511627776) {k : Nat} (hk : l.length < k) : laws_markByteS.f k l a = some (a + l.length, mks a l.length) := by
  unfold laws_markByteS.f
  have := markB_l l.length a ha hn l.length k 0 l rfl (by omega) hk (fun j hj => absurd hj (by omega))
  simpa using this
theorem heldB_l (n : Nat) (a : Int) (ha : 0 ≤ a ∧ a ≤ 1099511627776) (hn : n ≤ 1099511627776) (d : Nat) : ∀ (k i : Nat), i + d = n → d < k → laws_heldByteS.l0 k (mks a n) (a + i) (i : Int) = some (a + n) := by
  induction d with
  | zero =>
    intro k i hi hk
    obtain ⟨k, rfl⟩ : ∃ m, k = m + 1 := ⟨k - 1, by omega⟩
    simp only [laws_heldByteS.l0]
    rw [if_neg (by rw [mks_len]; omega)]
    congr 1
    omega
  | succ d ih =>
    intro k i hi hk
    obtain ⟨k, rfl⟩ : ∃ m, k = m + 1 := ⟨k - 1, by omega⟩
    simp only [laws_heldByteS.l0]
    have hr : rd (mks a n) (i : Int) = (a + i) % 256 := by
      unfold rd
      rw [Int.toNat_natCast, List.getD_eq_getElem?_getD, mks_at a n i (by omega)]
      rfl
    rw [if_pos (by rw [mks_len]; omega), if_pos (by omega), if_pos hr, wr64 (a := (i : Int) + 1) (by omega), wr64 (by omega), show a + (i : Int) + 1 = a + ((i + 1 : Nat) : Int) from by omega, show (i : Int) + 1 = ((i + 1 : Nat) : Int) from by omega]
    exact ih k (i + 1) (by omega) (by omega)
theorem heldB_f {n : Nat} {a : Int} (ha : 0 ≤ a ∧ a ≤ 1099511627776) (hn : n ≤ 1099511627776) {k : Nat} (hk : n < k) : laws_heldByteS.f k (mks a n) a = some (a + n) := by
  unfold laws_heldByteS.f
  have := heldB_l n a ha hn n k 0 (by omega) hk
  simpa using this

/-! ### wsum -/
/-- What a sum of numbers of two bytes folds to. -/
def fold (s : Int) : Int := if s = 0 then 0 else (s - 1) % 65535 + 1
theorem fold_le (s : Int) (h : 0 ≤ s) : 0 ≤ fold s ∧ fold s ≤ 65535 := by unfold fold; split <;> omega
theorem fold_low {s : Int} (h : 0 ≤ s ∧ s ≤ 65535) : fold s = s := by unfold fold; split <;> omega
theorem fold_step {s : Int} (h : s > 65535) : fold (s / 65536 + s % 65536) = fold s := by
  unfold fold
  rw [if_neg (by omega), if_neg (by omega)]
  omega
theorem fold_sub {s : Int} (h : s > 65535) : fold (s - 65535) = fold s := by
  unfold fold
  rw [if_neg (by omega), if_neg (by omega)]
  omega
/-- The sum of bytes: the one at a place with 'b' counts 256 times, and so on in turn. -/
def wsp : Bool → List Int → Int
  | _, [] => 0
  | true, a :: r => a * 256 + wsp false r
  | false, a :: r => a + wsp true r
/-- All are bytes. -/
def Bs (l : List Int) : Prop := ∀ x ∈ l, 0 ≤ x ∧ x ≤ 255
theorem Bs.get {l : List Int} (h : Bs l) {i : Nat} (hi : i < l.length) : 0 ≤ l[i] ∧ l[i] ≤ 255 := h _ (List.getElem_mem hi)
theorem Bs.of {l : List Int} (h : ∀ x ∈ l, (Lit.int .u8 x).wf = true) : Bs l := by
  intro x hx
  have hw := h x hx
  have h1 : IntKind.u8.min = 0 := by decide
  have h2 : IntKind.u8.max = 255 := by decide
  simp only [Lit.wf, Bool.and_eq_true, decide_eq_true_eq] at hw
  omega
theorem Bs.append {a b : List Int} (ha : Bs a) (hb : Bs b) : Bs (a ++ b) := by
  intro x hx
  rcases List.mem_append.1 hx with h | h
  · exact ha x h
  · exact hb x h
theorem Bs.take {l : List Int} (h : Bs l) (n : Nat) : Bs (l.take n) := fun x hx => h x (List.mem_of_mem_take hx)
theorem Bs.drop {l : List Int} (h : Bs l) (n : Nat) : Bs (l.drop n) := fun x hx => h x (List.mem_of_mem_drop hx)
theorem Bs.tail {a : Int} {l : List Int} (h : Bs (a :: l)) : Bs l := fun x hx => h x (List.mem_cons_of_mem _ hx)
theorem wsp_bd (l : List Int) : ∀ (b : Bool), Bs l → 0 ≤ wsp b l ∧ wsp b l ≤ 65280 * (l.length : Int) := by
  induction l with
  | nil => intro b _; cases b <;> simp [wsp]
  | cons a r ih =>
    intro b h
    have ha := h a (List.mem_cons_self ..)
    have h1 := ih true h.tail
    have h2 := ih false h.tail
    cases b <;> (simp only [wsp, List.length_cons]; omega)
theorem drop_cons {l : List Int} {i : Nat} (h : i < l.length) : l.drop i = l[i] :: l.drop (i + 1) := List.drop_eq_getElem_cons h
/-- The checksum of bytes. -/
def csum (l : List Int) : Int := 65535 - fold (wsp true l)
theorem csum_le {l : List Int} (h : Bs l) : 0 ≤ csum l ∧ csum l ≤ 65535 := by
  have := fold_le _ (wsp_bd l true h).1
  unfold csum
  omega

/-! ### be -/
/-- The low n bytes of a number, the high one first. -/
def be : Nat → Int → List Int
  | 0, _ => []
  | n + 1, v => (v / 2 ^ (8 * n) % 256) :: be n v
theorem be_len (n : Nat) (v : Int) : (be n v).length = n := by
  induction n with
  | zero => rfl
  | succ n ih => simp [be, ih]

/-! ### bebytes -/
theorem be_bytes (n : Nat) (v : Int) : Bs (be n v) := by
  induction n with
  | zero => intro x hx; cases hx
  | succ n ih =>
    intro x hx
    rcases List.mem_cons.1 hx with rfl | h
    · omega
    · exact ih x h

/-! ### l01copy -/
theorem copy_l (x0 : List Int) (hn : x0.length ≤ 1048576) (d : Nat) : ∀ (k i : Nat), i + d = x0.length → d < k → spec_l01Copy.l0 k x0 (x0.take i) (i : Int) = some x0 := by
  induction d with
  | zero =>
    intro k i hi hk
    obtain ⟨k, rfl⟩ : ∃ m, k = m + 1 := ⟨k - 1, by omega⟩
    simp only [spec_l01Copy.l0]
    rw [if_neg (by omega), List.take_of_length_le (by omega)]
  | succ d ih =>
    intro k i hi hk
    obtain ⟨k, rfl⟩ : ∃ m, k = m + 1 := ⟨k - 1, by omega⟩
    simp only [spec_l01Copy.l0]
    rw [if_pos (by omega), if_pos (by omega), if_pos (by rw [List.length_take]; omega), wr_succ (n := x0.length) (by omega) (by omega), rd_at (by omega), ← List.take_succ_eq_append_getElem (by omega)]
    exact ih k (i + 1) (by omega) (by omega)
theorem copy_f {l : List Int} (hn : l.length ≤ 1048576) {k : Nat} (hk : l.length < k) : spec_l01Copy.f k l = some l := copy_l l hn l.length k 0 (by omega) hk

/-! ### l01join -/
theorem join_l (a x1 : List Int) (ha : a.length ≤ 1048576) (hn : x1.length ≤ 1048576) (d : Nat) : ∀ (k i : Nat), i + d = x1.length → d < k → spec_l01Join.l0 k x1 (a ++ x1.take i) (i : Int) = some (a ++ x1) := by
  induction d with
  | zero =>
    intro k i hi hk
    obtain ⟨k, rfl⟩ : ∃ m, k = m + 1 := ⟨k - 1, by omega⟩
    simp only [spec_l01Join.l0]
    rw [if_neg (by omega), List.take_of_length_le (by omega)]
  | succ d ih =>
    intro k i hi hk
    obtain ⟨k, rfl⟩ : ∃ m, k = m + 1 := ⟨k - 1, by omega⟩
    simp only [spec_l01Join.l0]
    rw [if_pos (by omega), if_pos (by omega), if_pos (by rw [List.length_append, List.length_take]; omega), wr_succ (n := x1.length) (by omega) (by omega), rd_at (by omega), List.append_assoc, ← List.take_succ_eq_append_getElem (by omega)]
    exact ih k (i + 1) (by omega) (by omega)
theorem join_f {a b : List Int} (ha : a.length ≤ 1048576) (hb : b.length ≤ 1048576) {k : Nat} (hk : a.length < k) (hk2 : b.length < k) : spec_l01Join.f k a b = some (a ++ b) := by
  unfold spec_l01Join.f
  rw [copy_f ha hk]
  have := join_l a b ha hb b.length k 0 (by omega) hk2
  simpa using this

/-! ### specsum -/
theorem ssum_l (l : List Int) (hb : Bs l) (hn : l.length ≤ 1048576) (d : Nat) : ∀ (k i : Nat) (s : Int), l.length - i ≤ d → d < k → 0 ≤ s → s ≤ 65535 → i ≤ l.length + 1 → spec_l01Sum.l0 k l s (i : Int) = some (fold (s + wsp true (l.drop i))) := by
  induction d with
  | zero =>
    intro k i s hi hk h0 h1 hl
    obtain ⟨k, rfl⟩ : ∃ m, k = m + 1 := ⟨k - 1, by omega⟩
    simp only [spec_l01Sum.l0]
    rw [if_neg (by omega), List.drop_eq_nil_of_le (by omega)]
    simp only [wsp, Int.add_zero]
    rw [fold_low ⟨h0, h1⟩]
  | succ d ih =>
    intro k i s hi hk h0 h1 hl
    obtain ⟨k, rfl⟩ : ∃ m, k = m + 1 := ⟨k - 1, by omega⟩
    simp only [spec_l01Sum.l0]
    by_cases c1 : i < l.length
    · have b1 := hb.get c1
      rw [if_pos (by omega), if_pos (by omega), wr64 (a := (i : Int) + 1) (by omega), rd_at c1, wr64 (a := l[i]) (by omega), wr64 (a := l[i] * 256) (by omega), drop_cons c1]
      by_cases c2 : i + 1 < l.length
      · have b2 := hb.get c2
        have bd := wsp_bd (l.drop (i + 1 + 1)) true (hb.drop _)
        rw [if_pos (by omega), if_pos (by omega), show (i : Int) + 1 = ((i + 1 : Nat) : Int) from by omega, rd_at c2, wr64 (a := l[i + 1]) (by omega), wr64 (a := l[i] * 256 + l[i + 1]) (by omega), wr64 (a := s + (l[i] * 256 + l[i + 1])) (by omega), wr64 (a := (i : Int) + 2) (by omega), show (i : Int) + 2 = ((i + 1 + 1 : Nat) : Int) from by omega, drop_cons c2]
        simp only [wsp]
        by_cases c3 : s + (l[i] * 256 + l[i + 1]) > 65535
        · rw [if_pos c3, wr64 (by omega), ih k _ _ (by omega) (by omega) (by omega) (by omega) (by omega)]
          rw [← fold_sub (s := s + (l[i] * 256 + (l[i + 1] + wsp true (l.drop (i + 1 + 1))))) (by omega)]
          congr 2
          omega
        · rw [if_neg c3, ih k _ _ (by omega) (by omega) (by omega) (by omega) (by omega)]
          congr 2
          omega
      · rw [if_neg (by omega), wr64 (a := s + l[i] * 256) (by omega), wr64 (a := (i : Int) + 2) (by omega), show (i : Int) + 2 = ((i + 2 : Nat) : Int) from by omega, List.drop_eq_nil_of_le (show l.length ≤ i + 1 by omega)]
        have e2 : l.drop (i + 2) = [] := List.drop_eq_nil_of_le (by omega)
        simp only [wsp, Int.add_zero]
        by_cases c3 : s + l[i] * 256 > 65535
        · rw [if_pos c3, wr64 (by omega), ih k _ _ (by omega) (by omega) (by omega) (by omega) (by omega), e2]
          simp only [wsp, Int.add_zero]
          rw [← fold_sub (s := s + l[i] * 256) c3]
        · rw [if_neg c3, ih k _ _ (by omega) (by omega) (by omega) (by omega) (by omega), e2]
          simp only [wsp, Int.add_zero]
    · rw [if_neg (by omega), List.drop_eq_nil_of_le (by omega)]
      simp only [wsp, Int.add_zero]
      rw [fold_low ⟨h0, h1⟩]
theorem scheck_f {l : List Int} (hb : Bs l) (hn : l.length ≤ 1048576) {k : Nat} (hk : l.length < k) : spec_Checksum.f k l = some (csum l) := by
  unfold spec_Checksum.f spec_l01Sum.f
  have h := ssum_l l hb hn l.length k 0 0 (by omega) hk (by omega) (by omega) (by omega)
  rw [show ((0 : Nat) : Int) = 0 from rfl] at h
  have bd := wsp_bd l true hb
  have fl := fold_le _ bd.1
  rw [h]
  simp only [Option.bind_some, List.drop_zero, Int.zero_add]
  rw [wr64 (by omega)]
  rfl

/-! ### specput -/
theorem sput_l (v : Int) (n : Nat) : ∀ (k : Nat) (x : List Int), n ≤ 8 → x.length + n ≤ 1048576 → n < k → spec_l03Put.l0 k v x ((n : Int) - 1) = some (x ++ be n v) := by
  induction n with
  | zero =>
    intro k x hn hx hk
    obtain ⟨k, rfl⟩ : ∃ m, k = m + 1 := ⟨k - 1, by omega⟩
    simp only [spec_l03Put.l0]
    rw [if_neg (by omega)]
    simp [be]
  | succ n ih =>
    intro k x hn hx hk
    obtain ⟨k, rfl⟩ : ∃ m, k = m + 1 := ⟨k - 1, by omega⟩
    simp only [spec_l03Put.l0]
    have h8 : IntKind.u64.wrap (wrap64 (8 * (((n + 1 : Nat) : Int) - 1))) = ((8 * n : Nat) : Int) := by
      rw [wr64 (by omega)]
      simp only [IntKind.wrap, IntKind.bits, IntKind.signed]
      simp
      omega
    rw [if_pos (by omega), h8, if_pos (by omega), if_pos (by omega), wr64 (by omega), show ((n + 1 : Nat) : Int) - 1 - 1 = (n : Int) - 1 from by omega]
    rw [ih k _ (by omega) (by simp; omega) (by omega)]
    unfold shr
    rw [show min ((8 * n : Nat) : Int).toNat IntKind.i64.bits = 8 * n from by rw [Int.toNat_natCast]; show min (8 * n) 64 = 8 * n; omega]
    simp [be, List.append_assoc]
theorem sput_f {v : Int} {n : Nat} (hn : n ≤ 8) {k : Nat} (hk : n < k) : spec_l03Put.f k v (n : Int) = some (be n v) := by
  unfold spec_l03Put.f
  rw [wr64 (by omega), sput_l v n k [] hn (by simp; omega) hk]
  rfl

/-! ### carried -/
theorem wrap_u64 (n : Int) : IntKind.u64.wrap n = n % 18446744073709551616 := by simp [IntKind.wrap, IntKind.bits, IntKind.signed]
theorem wru {x : Int} (h : 0 ≤ x ∧ x < 18446744073709551616) : IntKind.u64.wrap x = x := by rw [wrap_u64]; omega
theorem wraps_u64 (n : Int) (h₀ : 0 ≤ n) (h₁ : n < 2 ^ 63) : IntKind.u64.wrap n = n := by rw [wrap_u64]; omega
theorem low_u64 (i : Nat) (hi : i ≤ 62) (x : Int) (h0 : 0 ≤ x) (h1 : x < 18446744073709551616) : Go.bits .and .u64 x (2 ^ i - 1) = x % 2 ^ i := by
  obtain ⟨a, rfl⟩ := Int.eq_ofNat_of_zero_le h0
  have hpos : 0 < 2 ^ i := Nat.two_pow_pos i
  have h62 : 2 ^ i ≤ 2 ^ 62 := Nat.pow_le_pow_right (by decide) hi
  have hc : ((2 : Int) ^ i - 1) = ((2 ^ i - 1 : Nat) : Int) := by
    rw [Int.natCast_sub hpos]; simp
  have hw : ∀ n : Int, 0 ≤ n → n < 2 ^ 64 → IntKind.u64.wrap n = n := fun n a b => by rw [wrap_u64]; omega
  rw [hc, (bits_nat .u64 64 (by decide) hw a _ (by omega) (by omega)).1, Nat.and_two_pow_sub_one_eq_mod]
  simp
theorem u64_65535 (x : Int) (h0 : 0 ≤ x) (h1 : x < 18446744073709551616) : Go.bits .and .u64 x 65535 = x % 65536 := low_u64 16 (by decide) x h0 h1
theorem not_u64 (x : Int) (h0 : 0 ≤ x) (h1 : x < 18446744073709551616) : Go.bits .xor .u64 18446744073709551615 x = 18446744073709551615 - x := by
  obtain ⟨a, rfl⟩ := Int.eq_ofNat_of_zero_le h0
  have key : Go.bits .xor .u64 18446744073709551615 (a : Int) = IntKind.u64.wrap ((BitVec.ofInt 64 18446744073709551615 ^^^ BitVec.ofInt 64 (a : Int)).toNat : Int) := rfl
  rw [key, show BitVec.ofInt 64 18446744073709551615 = BitVec.allOnes 64 from by decide, BitVec.allOnes_xor, BitVec.toNat_not, BitVec.ofInt_natCast, BitVec.toNat_ofNat, wrap_u64]
  omega
theorem not_i64 (x : Int) (h : -9223372036854775808 ≤ x ∧ x ≤ 9223372036854775807) : Go.bits .xor .i64 (-1) x = -1 - x := by
  have key : Go.bits .xor .i64 (-1) x = IntKind.i64.wrap ((BitVec.ofInt 64 (-1) ^^^ BitVec.ofInt 64 x).toNat : Int) := rfl
  rw [key, show BitVec.ofInt 64 (-1) = BitVec.allOnes 64 from by decide, BitVec.allOnes_xor, BitVec.toNat_not, BitVec.toNat_ofInt, IntKind.wrap_i64]
  omega
theorem carried_f {s : Int} (h0 : 0 ≤ s) (h1 : s < 281474976710656) {k : Nat} (hk : 8 ≤ k) : impl_carried.f k s = some (fold s) := by
  have h8 : impl_carried.f 8 s = some (fold s) := by
    unfold impl_carried.f
    have step : ∀ (k : Nat) (t : Int), 0 ≤ t → t < 281474976710656 → t > 65535 → impl_carried.l0 (k + 1) t = impl_carried.l0 k (t / 65536 + t % 65536) := by
      intro k t a b c
      simp only [impl_carried.l0]
      rw [if_pos c, u64_65535 _ a (by omega), wrap_u64, Int.emod_eq_of_lt (by omega) (by omega)]
    have stop : ∀ (k : Nat) (t : Int), 0 ≤ t → t ≤ 65535 → impl_carried.l0 (k + 1) t = some (fold t) := by
      intro k t a b
      simp only [impl_carried.l0]
      rw [if_neg (by omega), fold_low ⟨a, b⟩]
    by_cases a1 : s > 65535
    · rw [step 7 s h0 h1 a1, ← fold_step a1]
      generalize hs : s / 65536 + s % 65536 = s1
      have b1 : 0 ≤ s1 ∧ s1 < 4295032832 := by omega
      by_cases a2 : s1 > 65535
      · rw [step 6 s1 (by omega) (by omega) a2, ← fold_step a2]
        generalize hs2 : s1 / 65536 + s1 % 65536 = s2
        have b2 : 0 ≤ s2 ∧ s2 < 196608 := by omega
        by_cases a3 : s2 > 65535
        · rw [step 5 s2 (by omega) (by omega) a3, ← fold_step a3]
          generalize hs3 : s2 / 65536 + s2 % 65536 = s3
          have b3 : 0 ≤ s3 ∧ s3 < 65540 := by omega
          by_cases a4 : s3 > 65535
          · rw [step 4 s3 (by omega) (by omega) a4, ← fold_step a4]
            exact stop 3 _ (by omega) (by omega)
          · exact stop 4 _ (by omega) (by omega)
        · exact stop 5 _ (by omega) (by omega)
      · exact stop 6 _ (by omega) (by omega)
    · exact stop 7 _ (by omega) (by omega)
  exact at_rounds (fun k => impl_carried.mono s k) hk h8

/-! ### implsum -/
theorem isum_l (l : List Int) (hb : Bs l) (hn : l.length ≤ 1048576) (d : Nat) : ∀ (k i : Nat) (s : Int), i + d = l.length → d + 8 < k → 0 ≤ s → s + 65280 * (d : Int) < 281474976710656 → impl_Checksum.l0 k s l (l.length : Int) (i : Int) = some (65535 - fold (s + wsp (i % 2 == 0) (l.drop i))) := by
  induction d with
  | zero =>
    intro k i s hi hk h0 h1
    obtain ⟨k, rfl⟩ : ∃ m, k = m + 1 := ⟨k - 1, by omega⟩
    simp only [impl_Checksum.l0]
    rw [if_neg (by omega), List.drop_eq_nil_of_le (by omega), carried_f h0 (by omega) (by omega)]
    have e : ∀ b, wsp b [] = 0 := fun b => by cases b <;> rfl
    rw [e]
    simp only [Option.bind_some, Int.add_zero]
    have fl := fold_le s h0
    rw [not_u64 _ fl.1 (by omega), u64_65535 _ (by omega) (by omega), wr64 (by omega)]
    congr 1
    omega
  | succ d ih =>
    intro k i s hi hk h0 h1
    obtain ⟨k, rfl⟩ : ∃ m, k = m + 1 := ⟨k - 1, by omega⟩
    have c1 : i < l.length := by omega
    have b1 := hb.get c1
    simp only [impl_Checksum.l0]
    rw [if_pos (by omega), if_pos (by omega), if_pos (by omega), rd_at c1, tm_pos _ (by omega), wr_succ c1 (by omega), drop_cons c1, wrap_u64 l[i], Int.emod_eq_of_lt b1.1 (by omega)]
    by_cases c2 : i % 2 = 0
    · rw [if_pos (by omega), wrap_u64 (l[i] * 256), Int.emod_eq_of_lt (by omega) (by omega), wrap_u64, Int.emod_eq_of_lt (by omega) (by omega), ih k (i + 1) _ (by omega) (by omega) (by omega) (by omega)]
      rw [show (i % 2 == 0) = true from by simp [c2], show ((i + 1) % 2 == 0) = false from by simp; omega]
      simp only [wsp]
      congr 3
      omega
    · rw [if_neg (by omega), wrap_u64, Int.emod_eq_of_lt (by omega) (by omega), ih k (i + 1) _ (by omega) (by omega) (by omega) (by omega)]
      rw [show (i % 2 == 0) = false from by simp; omega, show ((i + 1) % 2 == 0) = true from by simp; omega]
      simp only [wsp]
      congr 3
      omega
theorem icheck_f {l : List Int} (hb : Bs l) (hn : l.length ≤ 1048576) {k : Nat} (hk : l.length + 8 < k) : impl_Checksum.f k l = some (csum l) := by
  unfold impl_Checksum.f
  have h := isum_l l hb hn l.length k 0 0 (by omega) hk (by omega) (by omega)
  rw [show ((0 : Nat) : Int) = 0 from rfl] at h
  rw [h]
  simp only [List.drop_zero, Int.zero_add]
  rfl

/-! ### implput -/
theorem iput_l (v : Int) (n : Nat) : ∀ (k : Nat) (x : List Int), n ≤ 8 → x.length + n ≤ 1048576 → n < k → impl_put.l0 k x v ((n : Int) - 1) = some (x ++ be n v) := by
  induction n with
  | zero =>
    intro k x hn hx hk
    obtain ⟨k, rfl⟩ : ∃ m, k = m + 1 := ⟨k - 1, by omega⟩
    simp only [impl_put.l0]
    rw [if_neg (by omega)]
    simp [be]
  | succ n ih =>
    intro k x hn hx hk
    obtain ⟨k, rfl⟩ : ∃ m, k = m + 1 := ⟨k - 1, by omega⟩
    simp only [impl_put.l0]
    have h8 : wrap64 (8 * (((n + 1 : Nat) : Int) - 1)) = ((8 * n : Nat) : Int) := by
      rw [wr64 (by omega)]
      omega
    rw [if_pos (by omega), h8, if_pos (by omega), if_pos (by omega), wr64 (by omega), show ((n + 1 : Nat) : Int) - 1 - 1 = (n : Int) - 1 from by omega]
    rw [ih k _ (by omega) (by simp; omega) (by omega)]
    unfold shr
    rw [show min ((8 * n : Nat) : Int).toNat IntKind.u64.bits = 8 * n from by rw [Int.toNat_natCast]; show min (8 * n) 64 = 8 * n; omega]
    have hw : IntKind.u64.wrap v = v % 18446744073709551616 := by simp [IntKind.wrap, IntKind.bits, IntKind.signed]
    have hb : v % 18446744073709551616 / 2 ^ (8 * n) % 256 = v / 2 ^ (8 * n) % 256 := by
      rcases (show n = 0 ∨ n = 1 ∨ n = 2 ∨ n = 3 ∨ n = 4 ∨ n = 5 ∨ n = 6 ∨ n = 7 by omega) with rfl | rfl | rfl | rfl | rfl | rfl | rfl | rfl <;> simp <;> omega
    rw [hw, hb]
    simp [be, List.append_assoc]
theorem iput_f {l : List Int} {v : Int} {n : Nat} (hn : n ≤ 8) (hl : l.length + n ≤ 1048576) {k : Nat} (hk : n < k) : impl_put.f k l (n : Int) v = some (l ++ be n v) := by
  unfold impl_put.f
  rw [wr64 (by omega), iput_l v n k l hn hl hk]

/-! ### the law -/
def okM (a b c : Int) : Prop := (0 ≤ a ∧ a ≤ 255) ∧ (0 ≤ b ∧ b ≤ 255) ∧ (0 ≤ c ∧ c ≤ 4294967295)
instance (a b c : Int) : Decidable (okM a b c) := by unfold okM; exact inferInstance
def mb (a b c : Int) (l : List Int) : List Int := [a % 256, b % 256, 0, 0] ++ be 4 c ++ l
theorem mb_len (a b c : Int) (l : List Int) : (mb a b c l).length = 8 + l.length := by
  simp [mb, be_len]
  omega
theorem mb_bytes (a b c : Int) {l : List Int} (h : Bs l) : Bs (mb a b c l) := by
  unfold mb
  refine Bs.append (Bs.append ?_ (be_bytes _ _)) h
  intro x hx
  simp only [List.mem_cons, List.not_mem_nil, or_false] at hx
  rcases hx with rfl | rfl | rfl | rfl <;> omega
def mo (g : List Int) : List Int := (g.set (2 : Int).toNat ((csum g / 256) % 256)).set (3 : Int).toNat (csum g % 256)
theorem mo_len (g : List Int) : (mo g).length = g.length := by simp [mo]
def mall (a b c : Int) (l : List Int) : List Int × Int := if okM a b c then (if (l.length : Int) > 65000 then ([], 7) else (mo (mb a b c l), 0)) else ([], 1)
theorem mall_len (a b c : Int) (l : List Int) : (mall a b c l).1.length ≤ 65535 := by
  unfold mall
  split
  · split
    · simp
    · simp only [mo_len, mb_len]
      omega
  · simp
theorem tail_m (g : List Int) (c : Int) (h : 4 ≤ g.length) : (if 2 < (g.length : Int) then (if 3 < (g.length : Int) then (some (((g.set (2 : Int).toNat ((c / 256) % 256)).set (3 : Int).toNat ((c) % 256)), (0 : Int))) else (none)) else (none)) = some ((g.set (2 : Int).toNat ((c / 256) % 256)).set (3 : Int).toNat (c % 256), (0 : Int)) := by
  rw [if_pos (show (2 : Int) < (g.length : Int) by omega), if_pos (show (3 : Int) < (g.length : Int) by omega)]
theorem smj_f (a b c : Int) {l : List Int} (hb : Bs l) (hl : l.length ≤ 1048576) {k : Nat} (hk : l.length + 100 ≤ k) : spec_EncodeIcmp.j0 (k + 1) false a b c l = some (if (l.length : Int) > 65000 then ([], 7) else (mo (mb a b c l), 0)) := by
  rw [spec_EncodeIcmp.j0, if_neg (by simp)]
  by_cases h : (l.length : Int) > 65000
  · rw [if_pos h, if_pos h]
  · rw [if_neg h, if_neg h]
    have hm := mb_len a b c l
    have hmb := mb_bytes a b c hb
    rw [show spec_l03Put.f k c 4 = some (be 4 c) from sput_f (n := 4) (by omega) (by omega), Option.bind_some]
    rw [join_f (by simp) (by simp [be_len]) (by simp <;> omega) (by simp [be_len] <;> omega), Option.bind_some]
    rw [join_f (by simp [be_len]) (by omega) (by simp [be_len] <;> omega) (by omega), Option.bind_some]
    rw [show [a % 256, b % 256, 0, 0] ++ be 4 c ++ l = mb a b c l from rfl]
    unfold mo
    generalize mb a b c l = g at hm hmb ⊢
    rw [scheck_f hmb (by omega) (by omega), Option.bind_some]
    exact tail_m g _ (by omega)
theorem imj_f (a b c : Int) {l : List Int} (hb : Bs l) (hl : l.length ≤ 1048576) {k : Nat} (hk : l.length + 100 ≤ k) : impl_EncodeIcmp.j0 (k + 1) false a b c l = some (if (l.length : Int) > 65000 then ([], 7) else (mo (mb a b c l), 0)) := by
  rw [impl_EncodeIcmp.j0, if_neg (by simp)]
  by_cases h : (l.length : Int) > 65000
  · rw [if_pos h, if_pos h]
  · rw [if_neg h, if_neg h]
    have hm := mb_len a b c l
    have hmb := mb_bytes a b c hb
    rw [show impl_put.f k [a % 256, b % 256, 0, 0] 4 c = some ([a % 256, b % 256, 0, 0] ++ be 4 c) from iput_f (n := 4) (by omega) (by simp) (by omega), Option.bind_some]
    rw [if_pos (by simp [be_len]; omega), Option.bind_some]
    rw [show [a % 256, b % 256, 0, 0] ++ be 4 c ++ l = mb a b c l from rfl]
    unfold mo
    generalize mb a b c l = g at hm hmb ⊢
    rw [icheck_f hmb (by omega) (by omega), Option.bind_some]
    exact tail_m g _ (by omega)
theorem bad_m (a b c : Int) (l : List Int) (k : Nat) : spec_EncodeIcmp.j0 (k + 1) true a b c l = some ([], 1) ∧ impl_EncodeIcmp.j0 (k + 1) true a b c l = some ([], 1) := ⟨by rw [spec_EncodeIcmp.j0]; rfl, by rw [impl_EncodeIcmp.j0]; rfl⟩
theorem icmp_f (a b c : Int) {l : List Int} (hb : Bs l) (hl : l.length ≤ 1048576) {k : Nat} (hk : l.length + 101 ≤ k) : spec_EncodeIcmp.f k a b c l = some (mall a b c l) ∧ impl_EncodeIcmp.f k a b c l = some (mall a b c l) := by
  obtain ⟨k, rfl⟩ : ∃ m, k = m + 1 := ⟨k - 1, by omega⟩
  obtain ⟨b1, b2⟩ := bad_m a b c l k
  unfold spec_EncodeIcmp.f impl_EncodeIcmp.f mall
  simp only [in_f, Option.bind_some, decide_eq_true_eq]
  by_cases ha : 0 ≤ a ∧ a ≤ 255
  · rw [if_pos ha, if_neg (show ¬ a < 0 by omega), if_neg (show ¬ a > 255 by omega)]
    by_cases hb2 : 0 ≤ b ∧ b ≤ 255
    · rw [if_pos hb2, if_neg (show ¬ b < 0 by omega), if_neg (show ¬ b > 255 by omega)]
      by_cases hc : 0 ≤ c ∧ c ≤ 4294967295
      · rw [if_neg (show ¬ c < 0 by omega), decide_eq_true hc, decide_eq_false (show ¬ c > 4294967295 by omega), if_pos (show okM a b c from ⟨ha, hb2, hc⟩)]
        exact ⟨smj_f a b c hb hl (by omega), imj_f a b c hb hl (by omega)⟩
      · rw [decide_eq_false hc, if_neg (show ¬ okM a b c from fun h => hc h.2.2)]
        refine ⟨b1, ?_⟩
        by_cases h1 : c < 0
        · rw [if_pos h1]; exact b2
        · rw [if_neg h1, decide_eq_true (show c > 4294967295 by omega)]; exact b2
    · rw [if_neg hb2, if_neg (show ¬ okM a b c from fun h => hb2 h.2.1)]
      refine ⟨b1, ?_⟩
      by_cases h1 : b < 0
      · rw [if_pos h1]; exact b2
      · rw [if_neg h1, if_pos (show b > 255 by omega)]; exact b2
  · rw [if_neg ha, if_neg (show ¬ okM a b c from fun h => ha h.1)]
    refine ⟨b1, ?_⟩
    by_cases h1 : a < 0
    · rw [if_pos h1]; exact b2
    · rw [if_neg h1, if_pos (show a > 255 by omega)]; exact b2
theorem toM_f (a b c : Int) {l : List Int} (hn : l.length ≤ 1048576) {k : Nat} (hk : l.length < k) : laws_toIcmp.f k a b c l = some (a, b, c, l) := by
  unfold laws_toIcmp.f
  rw [toB_f (by omega) hk]
  rfl
theorem FnExactEncodeIcmp (a b c : Int) (l : List Int) (w0 : (Lit.int .i64 a).wf = true) (w1 : (Lit.int .i64 b).wf = true) (w2 : (Lit.int .i64 c).wf = true) (hl : l.length ≤ maxLen) (hw : ∀ x ∈ l, (Lit.int .u8 x).wf = true) : ∃ k, laws_FnExactEncodeIcmp.f k a b c l = some true := by
  have hb := Bs.of hw
  have hsz : laws_szIcmp.f a b c l 1048576 = some (if (l.length : Int) > 1048576 then -1 else 1048576 - (l.length : Int)) := by
    unfold laws_szIcmp.f
    rw [szB_f (by omega) (len_of hl)]
    simp only [Option.bind_some]
    by_cases h : (l.length : Int) > 1048576
    · simp [h]
    · rw [if_neg h, if_neg (by omega)]
  by_cases h : (l.length : Int) > 1048576
  · refine ⟨0, ?_⟩
    unfold laws_FnExactEncodeIcmp.f
    rw [hsz, if_pos h]
    rfl
  · have hn : l.length ≤ 1048576 := by omega
    have hg := fun k (hk : l.length + 101 ≤ k) => icmp_f a b c hb hn (k := k) hk
    have hL := mall_len a b c l
    obtain ⟨R, hR⟩ : ∃ R, R = mall a b c l := ⟨_, rfl⟩
    rw [← hR] at hg hL
    obtain ⟨r, e⟩ := R
    simp only at hL
    obtain ⟨k, hk⟩ : ∃ k, k = l.length + r.length + 200 := ⟨_, rfl⟩
    have hx : ¬ ((1 : Int) + (r.length : Int) < 0) := by omega
    have hy : ¬ ((1 : Int) + (l.length : Int) < 0) := by omega
    refine ⟨k + 1 + 1 + 1, ?_⟩
    unfold laws_FnExactEncodeIcmp.f
    rw [hsz, if_neg h]
    simp only [Option.bind_some]
    rw [if_neg (by omega), toM_f _ _ _ hn (by omega)]
    simp only [Option.bind_some]
    rw [(hg _ (by omega)).1, (hg _ (by omega)).2]
    simp only [Option.bind_some]
    rw [eqB_f (by omega) (by omega)]
    simp only [Option.bind_some, decide_true, if_true, bne_self_eq_false]
    rw [laws_FnExactEncodeIcmp.j0, if_neg (by simp), toM_f _ _ _ hn (by omega)]
    simp only [Option.bind_some]
    have heq : laws_eqIcmp.f (k + 1 + 1) a b c l a b c l = some true := by
      unfold laws_eqIcmp.f
      rw [eqB_f (by omega) (by omega)]
      simp
    rw [heq]
    simp only [Option.bind_some, if_true]
    have hmk : laws_markIcmp.f (k + 1 + 1) a b c l 1 = some (1 + (l.length : Int), mks 1 l.length) := by
      unfold laws_markIcmp.f
      rw [markB_f (by omega) (by omega) (by omega)]
      rfl
    rw [hmk]
    simp only [Option.bind_some]
    rw [if_neg hy, eqB_f (by omega) (by omega)]
    simp only [Option.bind_some, decide_true, if_true, bne_self_eq_false]
    rw [laws_FnExactEncodeIcmp.j1, if_neg (by simp), markB_f (by omega) (by omega) (by omega)]
    simp only [Option.bind_some]
    rw [heldB_f (by omega) (by omega) (by omega)]
    simp only [Option.bind_some, if_true]
    rw [if_neg hx, toM_f _ _ _ hn (by omega)]
    simp only [Option.bind_some]
    rw [(hg _ (by omega)).2]
    simp only [Option.bind_some]
    rw [eqB_f (by omega) (by omega)]
    simp only [Option.bind_some, decide_true, if_true, bne_self_eq_false]
    rw [laws_FnExactEncodeIcmp.j2, if_neg (by simp), heldB_f (by omega) (by omega) (by omega)]
    simp only [Option.bind_some, if_true]
    rw [if_neg hx]

end Go.Proofs.Ytdigkdoihfpdgaa.Pure
