/- ReadQuote of the program returns what ReadQuote of the reference returns, for all arguments, and leaves its argument as it was; without conditions. -/
import Derived.Test.YtkfbcmbemihbnaaPFnExactReadQuotex5
set_option linter.unusedVariables false
set_option linter.unusedSimpArgs false
namespace Go.Proofs.Ytkfbcmbemihbnaa.Pure
open Go.RowKit Go.Proofs.Ytkfbcmbemihbnaa.PFnExactReadQuote Go.Proofs.YtkfbcmbemihbnaaW.PrintWords Go.Proofs.YtkfbcmbemihbnaaW.PrintLast

/-! ### base -/
theorem wf64 {a : Int} (h : (Lit.int .i64 a).wf = true) : -9223372036854775808 ≤ a ∧ a ≤ 9223372036854775807 := by
  have h1 : IntKind.i64.min = -9223372036854775808 := by decide
  have h2 : IntKind.i64.max = 9223372036854775807 := by decide
  simp only [Lit.wf, Bool.and_eq_true, decide_eq_true_eq] at h
  omega
theorem tm_pos {a : Int} (n : Int) (h : 0 ≤ a) : Int.tmod a n = a % n := Int.tmod_eq_emod_of_nonneg h
theorem tm_neg {a : Int} (n : Int) (h : a ≤ 0) : Int.tmod a n = -((-a) % n) := by
  have := Int.neg_tmod (-a) n
  rw [Int.neg_neg] at this
  rw [this, Int.tmod_eq_emod_of_nonneg (by omega)]
theorem td_pos {a : Int} (n : Int) (h : 0 ≤ a) : Int.tdiv a n = a / n := Int.tdiv_eq_ediv_of_nonneg h
theorem wr64 {a : Int} (h : -9223372036854775808 ≤ a ∧ a ≤ 9223372036854775807) : wrap64 a = a := by
  unfold wrap64
  omega
theorem dec_eq {p : Prop} [Decidable p] {b : Bool} (h : b = true ↔ p) : some b = some (decide p) := by
  rw [Option.some.injEq, Bool.eq_iff_iff, decide_eq_true_eq]
  exact h
theorem ite_dec (p q : Prop) [Decidable p] [Decidable q] : (if p then some (decide q) else some false) = some (decide (p ∧ q)) := by
  by_cases h : p <;> simp [h]
theorem beq_dec (a b : Int) : (a == b) = decide (a = b) := by
  rw [Bool.eq_iff_iff]
  simp

/-! ### bits -/
theorem wraps_i64 (n : Int) (h₀ : 0 ≤ n) (h₁ : n < 2 ^ 63) : IntKind.i64.wrap n = n := by rw [IntKind.wrap_i64]; omega
/-- The low bits of any whole number. -/
theorem and_low (i : Nat) (hi : i ≤ 62) (x : Int) : Go.bits .and .i64 x (2 ^ i - 1) = x % 2 ^ i := by
  have hpos : 0 < 2 ^ i := Nat.two_pow_pos i
  have h62 : 2 ^ i ≤ 2 ^ 62 := Nat.pow_le_pow_right (by decide) hi
  have hc : ((2 : Int) ^ i - 1) = ((2 ^ i - 1 : Nat) : Int) := by
    rw [Int.natCast_sub hpos]; simp
  have hx0 : 0 ≤ x % 18446744073709551616 := Int.emod_nonneg _ (by decide)
  have hx : (BitVec.ofInt 64 x).toNat = (x % 18446744073709551616).toNat := by rw [BitVec.toNat_ofInt]; rfl
  have hd : ((2 : Int) ^ i) ∣ 18446744073709551616 := by
    rw [show (18446744073709551616 : Int) = 2 ^ 64 from rfl]
    exact ⟨2 ^ (64 - i), by rw [← Int.pow_add, show i + (64 - i) = 64 from by omega]⟩
  have h2 : ((x % 18446744073709551616).toNat % 2 ^ i : Nat) = (x % 2 ^ i).toNat := by
    apply Int.ofNat.inj
    have e1 : (((x % 18446744073709551616).toNat % 2 ^ i : Nat) : Int) = x % 2 ^ i := by
      rw [Int.natCast_emod, Int.toNat_of_nonneg hx0, Int.natCast_pow]
      exact Int.emod_emod_of_dvd _ hd
    have e2 : 0 ≤ x % 2 ^ i := Int.emod_nonneg _ (by have : (0 : Int) < 2 ^ i := Int.pow_pos (by decide); omega)
    exact e1.trans (Int.toNat_of_nonneg e2).symm
  have e2 : 0 ≤ x % 2 ^ i := Int.emod_nonneg _ (by have : (0 : Int) < 2 ^ i := Int.pow_pos (by decide); omega)
  have e3 : x % 2 ^ i < 2 ^ i := Int.emod_lt_of_pos _ (Int.pow_pos (by decide))
  have e4 : (2 : Int) ^ i ≤ 2 ^ 62 := by exact_mod_cast h62
  have key : Go.bits .and .i64 x (2 ^ i - 1) = IntKind.i64.wrap (((BitVec.ofInt 64 x).toNat &&& (BitVec.ofInt 64 ((2 ^ i - 1 : Nat) : Int)).toNat : Nat) : Int) := by
    rw [hc]
    show IntKind.i64.wrap ((BitVec.ofInt 64 x &&& BitVec.ofInt 64 ((2 ^ i - 1 : Nat) : Int)).toNat : Int) = _
    rw [BitVec.toNat_and]
  rw [key, hx]
  have hm : (BitVec.ofInt 64 ((2 ^ i - 1 : Nat) : Int)).toNat = 2 ^ i - 1 := by
    rw [BitVec.ofInt_natCast, BitVec.toNat_ofNat]
    exact Nat.mod_eq_of_lt (by omega)
  rw [hm, Nat.and_two_pow_sub_one_eq_mod, h2, Int.toNat_of_nonneg e2]
  exact wraps_i64 _ e2 (by omega)
theorem and_65535 (x : Int) : Go.bits .and .i64 x 65535 = x % 65536 := and_low 16 (by decide) x
theorem and_255 (x : Int) : Go.bits .and .i64 x 255 = x % 256 := and_low 8 (by decide) x
theorem nat_and_high (a n : Nat) (ha : a < 2 ^ 32) (hn : n ≤ 32) : a &&& ((2 ^ (32 - n) - 1) * 2 ^ n) = a / 2 ^ n * 2 ^ n := by
  apply Nat.eq_of_testBit_eq
  intro i
  rw [Nat.testBit_and, Nat.testBit_mul_two_pow, Nat.testBit_mul_two_pow, Nat.testBit_div_two_pow, Nat.testBit_two_pow_sub_one]
  by_cases h : n ≤ i
  · simp only [h, decide_true, Bool.true_and]
    rw [show i - n + n = i from by omega]
    by_cases h3 : i - n < 32 - n
    · simp [h3]
    · have : a.testBit i = false := Nat.testBit_lt_two_pow (Nat.lt_of_lt_of_le ha (Nat.pow_le_pow_right (by decide) (by omega)))
      simp [this]
  · simp [h]
theorem and_high (a : Int) (n : Nat) (h0 : 0 ≤ a) (h1 : a ≤ 4294967295) (hn : n ≤ 32) : Go.bits .and .i64 a ((2 ^ (32 - n) - 1) * 2 ^ n) = a / 2 ^ n * 2 ^ n := by
  obtain ⟨b, rfl⟩ := Int.eq_ofNat_of_zero_le h0
  have hc : (((2 : Int) ^ (32 - n) - 1) * 2 ^ n) = (((2 ^ (32 - n) - 1) * 2 ^ n : Nat) : Int) := by
    rw [Int.natCast_mul, Int.natCast_sub (Nat.two_pow_pos _)]; simp
  have hl : (2 ^ (32 - n) - 1) * 2 ^ n ≤ 4294967295 := by
    rw [Nat.sub_mul, ← Nat.pow_add, show 32 - n + n = 32 from by omega]
    have := Nat.two_pow_pos n
    omega
  rw [hc, (bits_nat .i64 63 (by decide) wraps_i64 b _ (by omega) (by omega)).1, nat_and_high b n (by omega) hn]
  simp

/-! ### lists -/
theorem rd_at {xs : List Int} {i : Nat} (h : i < xs.length) : rd xs (i : Int) = xs[i] := by
  unfold rd
  rw [Int.toNat_natCast, List.getD_eq_getElem?_getD, List.getElem?_eq_getElem h]
  rfl
theorem wr_succ {i n : Nat} (h : i < n) (hn : n ≤ 281474976710656) : wrap64 ((i : Int) + 1) = ((i + 1 : Nat) : Int) := by
  rw [wr64 (by omega)]
  omega
theorem maxLen_le {n : Nat} (h : n ≤ 1048576) : n ≤ 281474976710656 := by omega

/-! ### tobytes -/
theorem toB_l (x0 : List Int) (hn : x0.length ≤ 281474976710656) (d : Nat) : ∀ (k i : Nat) (x3 : List Int), i + d = x0.length → d < k → x3.length = x0.length → (∀ j, j < i → x3[j]? = x0[j]?) → laws_toByteS.l0 k x0 x3 (i : Int) = some x0 := by
  induction d with
  | zero =>
    intro k i x3 hi hk hl he
    obtain ⟨k, rfl⟩ : ∃ m, k = m + 1 := ⟨k - 1, by omega⟩
    simp only [laws_toByteS.l0]
    rw [if_neg (by omega)]
    congr 1
    apply List.ext_getElem?
    intro j
    by_cases hj : j < i
    · exact he j hj
    · rw [List.getElem?_eq_none (by omega), List.getElem?_eq_none (by omega)]
  | succ d ih =>
    intro k i x3 hi hk hl he
    obtain ⟨k, rfl⟩ : ∃ m, k = m + 1 := ⟨k - 1, by omega⟩
    simp only [laws_toByteS.l0]
    rw [if_pos (by omega), if_pos (by omega), if_pos (by omega), wr_succ (n := x0.length) (by omega) hn]
    refine ih k (i + 1) _ (by omega) (by omega) (by simp [hl]) ?_
    intro j hj
    rw [Int.toNat_natCast]
    by_cases e : j = i
    · subst e
      rw [List.getElem?_set_self (by omega), rd_at (by omega), List.getElem?_eq_getElem (by omega)]
    · rw [List.getElem?_set_ne (by omega)]
      exact he j (by omega)
theorem toB_f {l : List Int} (hn : l.length ≤ 281474976710656) {k : Nat} (hk : l.length < k) : laws_toByteS.f k l = some l := by
  unfold laws_toByteS.f
  rw [if_pos (by omega), if_pos (by simpa using hn), Int.toNat_natCast]
  exact toB_l l hn l.length k 0 _ (by omega) hk (by simp) (fun j hj => absurd hj (by omega))

/-! ### eqbytes -/
theorem eqB_l (x0 x1 : List Int) (hn : x0.length ≤ 281474976710656) (hl : x0.length = x1.length) (d : Nat) : ∀ (k i : Nat), i + d = x0.length → d < k → (∀ j, j < i → x0[j]? = x1[j]?) → laws_eqByteS.l0 k x0 x1 (i : Int) = some (decide (x0 = x1)) := by
  induction d with
  | zero =>
    intro k i hi hk he
    obtain ⟨k, rfl⟩ : ∃ m, k = m + 1 := ⟨k - 1, by omega⟩
    simp only [laws_eqByteS.l0]
    rw [if_neg (by omega)]
    have : x0 = x1 := by
      apply List.ext_getElem?
      intro j
      by_cases hj : j < i
      · exact he j hj
      · rw [List.getElem?_eq_none (by omega), List.getElem?_eq_none (by omega)]
    simp [this]
  | succ d ih =>
    intro k i hi hk he
    obtain ⟨k, rfl⟩ : ∃ m, k = m + 1 := ⟨k - 1, by omega⟩
    simp only [laws_eqByteS.l0]
    rw [if_pos (by omega), if_pos (by omega), if_pos (by omega), wr_succ (n := x0.length) (by omega) hn, rd_at (by omega), rd_at (by omega)]
    by_cases e : x0[i] = x1[i]
    · rw [if_pos e]
      refine ih k (i + 1) (by omega) (by omega) ?_
      intro j hj
      by_cases ej : j = i
      · subst ej
        rw [List.getElem?_eq_getElem (by omega), List.getElem?_eq_getElem (by omega), e]
      · exact he j (by omega)
    · rw [if_neg e]
      have : x0 ≠ x1 := fun h => by
        subst h
        exact e rfl
      simp [this]
theorem eqB_f {l m : List Int} (hn : l.length ≤ 281474976710656) {k : Nat} (hk : l.length < k) : laws_eqByteS.f k l m = some (decide (l = m)) := by
  unfold laws_eqByteS.f
  by_cases h : l.length = m.length
  · rw [if_pos (by omega)]
    exact eqB_l l m hn h l.length k 0 (by omega) hk (fun j hj => absurd hj (by omega))
  · rw [if_neg (by omega)]
    have : l ≠ m := fun e => h (by rw [e])
    simp [this]

/-! ### wsum -/
/-- What a sum of numbers of two bytes folds to. -/
def fold (s : Int) : Int := if s = 0 then 0 else (s - 1) % 65535 + 1
theorem fold_le (s : Int) (h : 0 ≤ s) : 0 ≤ fold s ∧ fold s ≤ 65535 := by unfold fold; split <;> omega
theorem fold_low {s : Int} (h : 0 ≤ s ∧ s ≤ 65535) : fold s = s := by unfold fold; split <;> omega
theorem fold_step {s : Int} (h : s > 65535) : fold (s / 65536 + s % 65536) = fold s := by
  unfold fold
  rw [if_neg (by omega), if_neg (by omega)]
  omega
theorem fold_sub {s : Int} (h : s > 65535) : fold (s - 65535) = fold s := by
  unfold fold
  rw [if_neg (by omega), if_neg (by omega)]
  omega
/-- The sum of bytes: the one at a place with 'b' counts 256 times, and so on in turn. -/
def wsp : Bool → List Int → Int
  | _, [] => 0
  | true, a :: r => a * 256 + wsp false r
  | false, a :: r => a + wsp true r
/-- All are bytes. -/
def Bs (l : List Int) : Prop := ∀ x ∈ l, 0 ≤ x ∧ x ≤ 255
theorem Bs.get {l : List Int} (h : Bs l) {i : Nat} (hi : i < l.length) : 0 ≤ l[i] ∧ l[i] ≤ 255 := h _ (List.getElem_mem hi)
theorem Bs.of {l : List Int} (h : ∀ x ∈ l, (Lit.int .u8 x).wf = true) : Bs l := by
  intro x hx
  have hw := h x hx
  have h1 : IntKind.u8.min = 0 := by decide
  have h2 : IntKind.u8.max = 255 := by decide
  simp only [Lit.wf, Bool.and_eq_true, decide_eq_true_eq] at hw
  omega
theorem Bs.append {a b : List Int} (ha : Bs a) (hb : Bs b) : Bs (a ++ b) := by
  intro x hx
  rcases List.mem_append.1 hx with h | h
  · exact ha x h
  · exact hb x h
theorem Bs.take {l : List Int} (h : Bs l) (n : Nat) : Bs (l.take n) := fun x hx => h x (List.mem_of_mem_take hx)
theorem Bs.drop {l : List Int} (h : Bs l) (n : Nat) : Bs (l.drop n) := fun x hx => h x (List.mem_of_mem_drop hx)
theorem Bs.tail {a : Int} {l : List Int} (h : Bs (a :: l)) : Bs l := fun x hx => h x (List.mem_cons_of_mem _ hx)
theorem wsp_bd (l : List Int) : ∀ (b : Bool), Bs l → 0 ≤ wsp b l ∧ wsp b l ≤ 65280 * (l.length : Int) := by
  induction l with
  | nil => intro b _; cases b <;> simp [wsp]
  | cons a r ih =>
    intro b h
    have ha := h a (List.mem_cons_self ..)
    have h1 := ih true h.tail
    have h2 := ih false h.tail
    cases b <;> (simp only [wsp, List.length_cons]; omega)
theorem drop_cons {l : List Int} {i : Nat} (h : i < l.length) : l.drop i = l[i] :: l.drop (i + 1) := List.drop_eq_getElem_cons h
/-- The checksum of bytes. -/
def csum (l : List Int) : Int := 65535 - fold (wsp true l)
theorem csum_le {l : List Int} (h : Bs l) : 0 ≤ csum l ∧ csum l ≤ 65535 := by
  have := fold_le _ (wsp_bd l true h).1
  unfold csum
  omega

/-! ### num -/
/-- The number that bytes behind a number tell, the high one first. -/
def numa : Int → List Int → Int
  | a, [] => a
  | a, b :: r => numa (a * 256 + b) r
theorem pow_le6 {i : Nat} (h : i ≤ 6) : (2 : Int) ^ (8 * i) ≤ 281474976710656 := by
  rcases (show i = 0 ∨ i = 1 ∨ i = 2 ∨ i = 3 ∨ i = 4 ∨ i = 5 ∨ i = 6 by omega) with rfl | rfl | rfl | rfl | rfl | rfl | rfl <;> decide
theorem pow_8 (i : Nat) : (2 : Int) ^ (8 * (i + 1)) = 2 ^ (8 * i) * 256 := by
  rw [show 8 * (i + 1) = 8 * i + 8 from by omega, Int.pow_add]
  rfl
theorem numa_bd (l : List Int) : ∀ (i : Nat) (a : Int), Bs l → 0 ≤ a → a < 2 ^ (8 * i) → 0 ≤ numa a l ∧ numa a l < 2 ^ (8 * (i + l.length)) := by
  induction l with
  | nil => intro i a _ h0 h1; exact ⟨h0, h1⟩
  | cons b r ih =>
    intro i a hb h0 h1
    have hb0 := hb b (List.mem_cons_self ..)
    have e := pow_8 i
    have := ih (i + 1) (a * 256 + b) hb.tail (by omega) (by omega)
    rw [show i + 1 + r.length = i + (b :: r).length from by simp; omega] at this
    exact this

/-! ### specnum -/
theorem snum_l (l : List Int) (hb : Bs l) (hn : l.length ≤ 7) (d : Nat) : ∀ (k i : Nat) (s : Int), i + d = l.length → d < k → 0 ≤ s → s < 2 ^ (8 * i) → spec_l03Num.l0 k l s (i : Int) = some (numa s (l.drop i)) := by
  induction d with
  | zero =>
    intro k i s hi hk h0 h1
    obtain ⟨k, rfl⟩ : ∃ m, k = m + 1 := ⟨k - 1, by omega⟩
    simp only [spec_l03Num.l0]
    rw [if_neg (by omega), List.drop_eq_nil_of_le (by omega)]
    rfl
  | succ d ih =>
    intro k i s hi hk h0 h1
    obtain ⟨k, rfl⟩ : ∃ m, k = m + 1 := ⟨k - 1, by omega⟩
    have c1 : i < l.length := by omega
    have b1 := hb.get c1
    have p1 := pow_le6 (i := i) (by omega)
    have p2 := pow_8 i
    simp only [spec_l03Num.l0]
    rw [if_pos (by omega), if_pos (by omega), rd_at c1, wr64 (a := l[i]) (by omega), wr64 (a := s * 256) (by omega), wr64 (a := s * 256 + l[i]) (by omega), wr_succ c1 (by omega), ih k (i + 1) _ (by omega) (by omega) (by omega) (by omega), drop_cons c1]
    rfl
theorem snum_f {l : List Int} (hb : Bs l) (hn : l.length ≤ 7) {k : Nat} (hk : l.length < k) : spec_l03Num.f k l = some (numa 0 l) := by
  unfold spec_l03Num.f
  have := snum_l l hb hn l.length k 0 0 (by omega) hk (by omega) (by decide)
  simpa using this

/-! ### implget -/
theorem or_byte {s b : Int} (h0 : 0 ≤ s) (h1 : s < 281474976710656) (hb : 0 ≤ b ∧ b ≤ 255) : Go.bits .or .i64 (s * 256) b = s * 256 + b :=
  bits_join .i64 63 (by decide) wraps_i64 8 (s * 256) b (by omega) (by omega) (by omega) hb.1 (by omega) (by omega)
theorem iget_l (l : List Int) (hb : Bs l) (hn : l.length ≤ 7) (d : Nat) : ∀ (k i : Nat) (s : Int), i + d = l.length → d < k → 0 ≤ s → s < 2 ^ (8 * i) → impl_get.l0 k s l (l.length : Int) (i : Int) = some (numa s (l.drop i)) := by
  induction d with
  | zero =>
    intro k i s hi hk h0 h1
    obtain ⟨k, rfl⟩ : ∃ m, k = m + 1 := ⟨k - 1, by omega⟩
    simp only [impl_get.l0]
    rw [if_neg (by omega), List.drop_eq_nil_of_le (by omega)]
    rfl
  | succ d ih =>
    intro k i s hi hk h0 h1
    obtain ⟨k, rfl⟩ : ∃ m, k = m + 1 := ⟨k - 1, by omega⟩
    have c1 : i < l.length := by omega
    have b1 := hb.get c1
    have p1 := pow_le6 (i := i) (by omega)
    have p2 := pow_8 i
    simp only [impl_get.l0]
    rw [if_pos (by omega), if_pos (by omega), if_pos (by omega), rd_at c1, wr64 (a := l[i]) (by omega), wr64 (a := s * 256) (by omega), or_byte h0 (by omega) b1, wr_succ c1 (by omega), ih k (i + 1) _ (by omega) (by omega) (by omega) (by omega), drop_cons c1]
    rfl
theorem iget_f {l : List Int} (hb : Bs l) (hn : l.length ≤ 7) {k : Nat} (hk : l.length < k) : impl_get.f k l = some (numa 0 l) := by
  unfold impl_get.f
  have := iget_l l hb hn l.length k 0 0 (by omega) hk (by omega) (by decide)
  simpa using this

/-! ### specsum -/
theorem ssum_l (l : List Int) (hb : Bs l) (hn : l.length ≤ 1048576) (d : Nat) : ∀ (k i : Nat) (s : Int), l.length - i ≤ d → d < k → 0 ≤ s → s ≤ 65535 → i ≤ l.length + 1 → spec_l01Sum.l0 k l s (i : Int) = some (fold (s + wsp true (l.drop i))) := by
  induction d with
  | zero =>
    intro k i s hi hk h0 h1 hl
    obtain ⟨k, rfl⟩ : ∃ m, k = m + 1 := ⟨k - 1, by omega⟩
    simp only [spec_l01Sum.l0]
    rw [if_neg (by omega), List.drop_eq_nil_of_le (by omega)]
    simp only [wsp, Int.add_zero]
    rw [fold_low ⟨h0, h1⟩]
  | succ d ih =>
    intro k i s hi hk h0 h1 hl
    obtain ⟨k, rfl⟩ : ∃ m, k = m + 1 := ⟨k - 1, by omega⟩
    simp only [spec_l01Sum.l0]
    by_cases c1 : i < l.length
    · have b1 := hb.get c1
      rw [if_pos (by omega), if_pos (by omega), wr64 (a := (i : Int) + 1) (by omega), rd_at c1, wr64 (a := l[i]) (by omega), wr64 (a := l[i] * 256) (by omega), drop_cons c1]
      by_cases c2 : i + 1 < l.length
      · have b2 := hb.get c2
        have bd := wsp_bd (l.drop (i + 1 + 1)) true (hb.drop _)
        rw [if_pos (by omega), if_pos (by omega), show (i : Int) + 1 = ((i + 1 : Nat) : Int) from by omega, rd_at c2, wr64 (a := l[i + 1]) (by omega), wr64 (a := l[i] * 256 + l[i + 1]) (by omega), wr64 (a := s + (l[i] * 256 + l[i + 1])) (by omega), wr64 (a := (i : Int) + 2) (by omega), show (i : Int) + 2 = ((i + 1 + 1 : Nat) : Int) from by omega, drop_cons c2]
        simp only [wsp]
        by_cases c3 : s + (l[i] * 256 + l[i + 1]) > 65535
        · rw [if_pos c3, wr64 (by omega), ih k _ _ (by omega) (by omega) (by omega) (by omega) (by omega)]
          rw [← fold_sub (s := s + (l[i] * 256 + (l[i + 1] + wsp true (l.drop (i + 1 + 1))))) (by omega)]
          congr 2
          omega
        · rw [if_neg c3, ih k _ _ (by omega) (by omega) (by omega) (by omega) (by omega)]
          congr 2
          omega
      · rw [if_neg (by omega), wr64 (a := s + l[i] * 256) (by omega), wr64 (a := (i : Int) + 2) (by omega), show (i : Int) + 2 = ((i + 2 : Nat) : Int) from by omega, List.drop_eq_nil_of_le (show l.length ≤ i + 1 by omega)]
        have e2 : l.drop (i + 2) = [] := List.drop_eq_nil_of_le (by omega)
        simp only [wsp, Int.add_zero]
        by_cases c3 : s + l[i] * 256 > 65535
        · rw [if_pos c3, wr64 (by omega), ih k _ _ (by omega) (by omega) (by omega) (by omega) (by omega), e2]
          simp only [wsp, Int.add_zero]
          rw [← fold_sub (s := s + l[i] * 256) c3]
        · rw [if_neg c3, ih k _ _ (by omega) (by omega) (by omega) (by omega) (by omega), e2]
          simp only [wsp, Int.add_zero]
    · rw [if_neg (by omega), List.drop_eq_nil_of_le (by omega)]
      simp only [wsp, Int.add_zero]
      rw [fold_low ⟨h0, h1⟩]
theorem scheck_f {l : List Int} (hb : Bs l) (hn : l.length ≤ 1048576) {k : Nat} (hk : l.length < k) : spec_Checksum.f k l = some (csum l) := by
  unfold spec_Checksum.f spec_l01Sum.f
  have h := ssum_l l hb hn l.length k 0 0 (by omega) hk (by omega) (by omega) (by omega)
  rw [show ((0 : Nat) : Int) = 0 from rfl] at h
  have bd := wsp_bd l true hb
  have fl := fold_le _ bd.1
  rw [h]
  simp only [Option.bind_some, List.drop_zero, Int.zero_add]
  rw [wr64 (by omega)]
  rfl

/-! ### carried -/
theorem wrap_u64 (n : Int) : IntKind.u64.wrap n = n % 18446744073709551616 := by simp [IntKind.wrap, IntKind.bits, IntKind.signed]
theorem wru {x : Int} (h : 0 ≤ x ∧ x < 18446744073709551616) : IntKind.u64.wrap x = x := by rw [wrap_u64]; omega
theorem wraps_u64 (n : Int) (h₀ : 0 ≤ n) (h₁ : n < 2 ^ 63) : IntKind.u64.wrap n = n := by rw [wrap_u64]; omega
theorem low_u64 (i : Nat) (hi : i ≤ 62) (x : Int) (h0 : 0 ≤ x) (h1 : x < 18446744073709551616) : Go.bits .and .u64 x (2 ^ i - 1) = x % 2 ^ i := by
  obtain ⟨a, rfl⟩ := Int.eq_ofNat_of_zero_le h0
  have hpos : 0 < 2 ^ i := Nat.two_pow_pos i
  have h62 : 2 ^ i ≤ 2 ^ 62 := Nat.pow_le_pow_right (by decide) hi
  have hc : ((2 : Int) ^ i - 1) = ((2 ^ i - 1 : Nat) : Int) := by
    rw [Int.natCast_sub hpos]; simp
  have hw : ∀ n : Int, 0 ≤ n → n < 2 ^ 64 → IntKind.u64.wrap n = n := fun n a b => by rw [wrap_u64]; omega
  rw [hc, (bits_nat .u64 64 (by decide) hw a _ (by omega) (by omega)).1, Nat.and_two_pow_sub_one_eq_mod]
  simp
theorem u64_65535 (x : Int) (h0 : 0 ≤ x) (h1 : x < 18446744073709551616) : Go.bits .and .u64 x 65535 = x % 65536 := low_u64 16 (by decide) x h0 h1
theorem not_u64 (x : Int) (h0 : 0 ≤ x) (h1 : x < 18446744073709551616) : Go.bits .xor .u64 18446744073709551615 x = 18446744073709551615 - x := by
  obtain ⟨a, rfl⟩ := Int.eq_ofNat_of_zero_le h0
  have key : Go.bits .xor .u64 18446744073709551615 (a : Int) = IntKind.u64.wrap ((BitVec.ofInt 64 18446744073709551615 ^^^ BitVec.ofInt 64 (a : Int)).toNat : Int) := rfl
  rw [key, show BitVec.ofInt 64 18446744073709551615 = BitVec.allOnes 64 from by decide, BitVec.allOnes_xor, BitVec.toNat_not, BitVec.ofInt_natCast, BitVec.toNat_ofNat, wrap_u64]
  omega
theorem not_i64 (x : Int) (h : -9223372036854775808 ≤ x ∧ x ≤ 9223372036854775807) : Go.bits .xor .i64 (-1) x = -1 - x := by
  have key : Go.bits .xor .i64 (-1) x = IntKind.i64.wrap ((BitVec.ofInt 64 (-1) ^^^ BitVec.ofInt 64 x).toNat : Int) := rfl
  rw [key, show BitVec.ofInt 64 (-1) = BitVec.allOnes 64 from by decide, BitVec.allOnes_xor, BitVec.toNat_not, BitVec.toNat_ofInt, IntKind.wrap_i64]
  omega
theorem carried_f {s : Int} (h0 : 0 ≤ s) (h1 : s < 281474976710656) {k : Nat} (hk : 8 ≤ k) : impl_carried.f k s = some (fold s) := by
  have h8 : impl_carried.f 8 s = some (fold s) := by
    unfold impl_carried.f
    have step : ∀ (k : Nat) (t : Int), 0 ≤ t → t < 281474976710656 → t > 65535 → impl_carried.l0 (k + 1) t = impl_carried.l0 k (t / 65536 + t % 65536) := by
      intro k t a b c
      simp only [impl_carried.l0]
      rw [if_pos c, u64_65535 _ a (by omega), wrap_u64, Int.emod_eq_of_lt (by omega) (by omega)]
    have stop : ∀ (k : Nat) (t : Int), 0 ≤ t → t ≤ 65535 → impl_carried.l0 (k + 1) t = some (fold t) := by
      intro k t a b
      simp only [impl_carried.l0]
      rw [if_neg (by omega), fold_low ⟨a, b⟩]
    by_cases a1 : s > 65535
    · rw [step 7 s h0 h1 a1, ← fold_step a1]
      generalize hs : s / 65536 + s % 65536 = s1
      have b1 : 0 ≤ s1 ∧ s1 < 4295032832 := by omega
      by_cases a2 : s1 > 65535
      · rw [step 6 s1 (by omega) (by omega) a2, ← fold_step a2]
        generalize hs2 : s1 / 65536 + s1 % 65536 = s2
        have b2 : 0 ≤ s2 ∧ s2 < 196608 := by omega
        by_cases a3 : s2 > 65535
        · rw [step 5 s2 (by omega) (by omega) a3, ← fold_step a3]
          generalize hs3 : s2 / 65536 + s2 % 65536 = s3
          have b3 : 0 ≤ s3 ∧ s3 < 65540 := by omega
          by_cases a4 : s3 > 65535
          · rw [step 4 s3 (by omega) (by omega) a4, ← fold_step a4]
            exact stop 3 _ (by omega) (by omega)
          · exact stop 4 _ (by omega) (by omega)
        · exact stop 5 _ (by omega) (by omega)
      · exact stop 6 _ (by omega) (by omega)
    · exact stop 7 _ (by omega) (by omega)
  exact at_rounds (fun k => impl_carried.mono s k) hk h8

/-! ### implsum -/
theorem isum_l (l : List Int) (hb : Bs l) (hn : l.length ≤ 1048576) (d : Nat) : ∀ (k i : Nat) (s : Int), i + d = l.length → d + 8 < k → 0 ≤ s → s + 65280 * (d : Int) < 281474976710656 → impl_Checksum.l0 k s l (l.length : Int) (i : Int) = some (65535 - fold (s + wsp (i % 2 == 0) (l.drop i))) := by
  induction d with
  | zero =>
    intro k i s hi hk h0 h1
    obtain ⟨k, rfl⟩ : ∃ m, k = m + 1 := ⟨k - 1, by omega⟩
    simp only [impl_Checksum.l0]
    rw [if_neg (by omega), List.drop_eq_nil_of_le (by omega), carried_f h0 (by omega) (by omega)]
    have e : ∀ b, wsp b [] = 0 := fun b => by cases b <;> rfl
    rw [e]
    simp only [Option.bind_some, Int.add_zero]
    have fl := fold_le s h0
    rw [not_u64 _ fl.1 (by omega), u64_65535 _ (by omega) (by omega), wr64 (by omega)]
    congr 1
    omega
  | succ d ih =>
    intro k i s hi hk h0 h1
    obtain ⟨k, rfl⟩ : ∃ m, k = m + 1 := ⟨k - 1, by omega⟩
    have c1 : i < l.length := by omega
    have b1 := hb.get c1
    simp only [impl_Checksum.l0]
    rw [if_pos (by omega), if_pos (by omega), if_pos (by omega), rd_at c1, tm_pos _ (by omega), wr_succ c1 (by omega), drop_cons c1, wrap_u64 l[i], Int.emod_eq_of_lt b1.1 (by omega)]
    by_cases c2 : i % 2 = 0
    · rw [if_pos (by omega), wrap_u64 (l[i] * 256), Int.emod_eq_of_lt (by omega) (by omega), wrap_u64, Int.emod_eq_of_lt (by omega) (by omega), ih k (i + 1) _ (by omega) (by omega) (by omega) (by omega)]
      rw [show (i % 2 == 0) = true from by simp [c2], show ((i + 1) % 2 == 0) = false from by simp; omega]
      simp only [wsp]
      congr 3
      omega
    · rw [if_neg (by omega), wrap_u64, Int.emod_eq_of_lt (by omega) (by omega), ih k (i + 1) _ (by omega) (by omega) (by omega) (by omega)]
      rw [show (i % 2 == 0) = false from by simp; omega, show ((i + 1) % 2 == 0) = true from by simp; omega]
      simp only [wsp]
      congr 3
      omega
theorem icheck_f {l : List Int} (hb : Bs l) (hn : l.length ≤ 1048576) {k : Nat} (hk : l.length + 8 < k) : impl_Checksum.f k l = some (csum l) := by
  unfold impl_Checksum.f
  have h := isum_l l hb hn l.length k 0 0 (by omega) hk (by omega) (by omega)
  rw [show ((0 : Nat) : Int) = 0 from rfl] at h
  rw [h]
  simp only [List.drop_zero, Int.zero_add]
  rfl

/-! ### the law -/
theorem and15 {x : Int} (h : 0 ≤ x ∧ x ≤ 255) : Go.bits .and .u8 x 15 = x % 16 := by
  have key : ∀ n : Fin 256, Go.bits .and .u8 (n.val : Int) 15 = (n.val : Int) % 16 := by decide +kernel
  have e := key ⟨x.toNat, by omega⟩
  simp only [Int.toNat_of_nonneg h.1] at e
  exact e
def qcode (l : List Int) (n : Nat) : Int := if (n : Int) < 20 ∨ (n : Int) > (l.length : Int) then 5 else if csum (l.take n) = 0 then (if (l.length : Int) < (n : Int) + 8 then 2 else 0) else 3
def qfull (l : List Int) (n : Nat) : Int × Int × Int × Int × Int × Int × Int × Int := (rd l 9, numa 0 ((l.take 16).drop 12), numa 0 ((l.take 20).drop 16), numa 0 ((l.take 6).drop 4), numa 0 ((l.drop n).take 2), numa 0 (((l.drop n).take 4).drop 2), numa 0 (((l.drop n).take 8).drop 4), 0)
def qall (l : List Int) (n : Nat) : Int × Int × Int × Int × Int × Int × Int × Int := if qcode l n = 0 then qfull l n else (0, 0, 0, 0, 0, 0, 0, qcode l n)
theorem snum_c {l : List Int} (hb : Bs l) (hl : l.length ≤ 7) {k : Nat} (hk : 10 ≤ k) : spec_l03Num.f k l = some (numa 0 l) := snum_f hb hl (by omega)
theorem iget_c {l : List Int} (hb : Bs l) (hl : l.length ≤ 7) {k : Nat} (hk : 10 ≤ k) : impl_get.f k l = some (numa 0 l) := iget_f hb hl (by omega)
theorem rd9 {l : List Int} (hb : Bs l) (h : 9 < l.length) : wrap64 (rd l 9) = rd l 9 := by
  have e := rd_at (xs := l) (i := 9) h
  rw [show ((9 : Nat) : Int) = 9 from rfl] at e
  have := hb.get h
  rw [e, wr64 (by omega)]
theorem sfull {l : List Int} (hb : Bs l) (hl : l.length ≤ 1048576) {n : Nat} (h1 : 20 ≤ n) (h2 : n + 8 ≤ l.length) {k : Nat} (hk : 100 ≤ k) :
    (if (l.length : Int) < (wrap64 ((n : Int) + 8)) then (some (0, 0, 0, 0, 0, 0, 0, 2)) else (if 0 ≤ (n : Int) then (if (n : Int) ≤ (wrap64 ((n : Int) + 8)) then (if (wrap64 ((n : Int) + 8)) ≤ (l.length : Int) then (if 9 < (l.length : Int) then (if 12 ≤ 16 then (if 16 ≤ (l.length : Int) then ((spec_l03Num.f k ((l.take 16).drop 12)).bind fun t122 => (if 16 ≤ 20 then (if 20 ≤ (l.length : Int) then ((spec_l03Num.f k ((l.take 20).drop 16)).bind fun t124 => (if 4 ≤ 6 then (if 6 ≤ (l.length : Int) then ((spec_l03Num.f k ((l.take 6).drop 4)).bind fun t126 => (if 2 ≤ (((l.take ((wrap64 ((n : Int) + 8)) : Int).toNat).drop ((n : Int) : Int).toNat).length : Int) then ((spec_l03Num.f k (((l.take ((wrap64 ((n : Int) + 8)) : Int).toNat).drop ((n : Int) : Int).toNat).take 2)).bind fun t128 => (if 2 ≤ 4 then (if 4 ≤ (((l.take ((wrap64 ((n : Int) + 8)) : Int).toNat).drop ((n : Int) : Int).toNat).length : Int) then ((spec_l03Num.f k ((((l.take ((wrap64 ((n : Int) + 8)) : Int).toNat).drop ((n : Int) : Int).toNat).take 4).drop 2)).bind fun t130 => ((spec_l03Num.f k (((l.take ((wrap64 ((n : Int) + 8)) : Int).toNat).drop ((n : Int) : Int).toNat).drop 4)).bind fun t132 => (some (wrap64 (rd l 9), t122, t124, t126, t128, t130, t132, 0)))) else (none)) else (none))) else (none))) else (none)) else (none))) else (none)) else (none))) else (none)) else (none)) else (none)) else (none)) else (none)) else (none))) = some (qfull l n) := by
  have e8 : wrap64 ((n : Int) + 8) = ((n + 8 : Nat) : Int) := by rw [wr64 (by omega)]; omega
  have ed : (l.take (n + 8)).drop n = (l.drop n).take 8 := by rw [List.drop_take, show n + 8 - n = 8 from by omega]
  rw [e8, Int.toNat_natCast, Int.toNat_natCast, ed]
  have hX : (l.drop n).length = l.length - n := List.length_drop ..
  have hbX : Bs (l.drop n) := hb.drop n
  unfold qfull
  generalize l.drop n = X at hX hbX ⊢
  have t2 : (X.take 8).take 2 = X.take 2 := by rw [List.take_take]; rfl
  have t4 : (X.take 8).take 4 = X.take 4 := by rw [List.take_take]; rfl
  have tl : ((X.take 8).length : Int) = 8 := by rw [List.length_take]; omega
  rw [t2, t4, tl, rd9 hb (by omega)]
  rw [snum_c (l := (l.take 16).drop 12) ((hb.take _).drop _) (by simp only [List.length_drop, List.length_take]; omega) (by omega), snum_c (l := (l.take 20).drop 16) ((hb.take _).drop _) (by simp only [List.length_drop, List.length_take]; omega) (by omega), snum_c (l := (l.take 6).drop 4) ((hb.take _).drop _) (by simp only [List.length_drop, List.length_take]; omega) (by omega)]
  rw [snum_c (l := X.take 2) (hbX.take _) (by simp only [List.length_take]; omega) (by omega), snum_c (l := (X.take 4).drop 2) ((hbX.take _).drop _) (by simp only [List.length_drop, List.length_take]; omega) (by omega), snum_c (l := (X.take 8).drop 4) ((hbX.take _).drop _) (by simp only [List.length_drop, List.length_take]; omega) (by omega)]
  have q1 : ¬ ((l.length : Int) < ((n + 8 : Nat) : Int)) := by omega
  have q2 : (0 : Int) ≤ (n : Int) := by omega
  have q3 : (n : Int) ≤ ((n + 8 : Nat) : Int) := by omega
  have q4 : ((n + 8 : Nat) : Int) ≤ (l.length : Int) := by omega
  have q5 : (9 : Int) < (l.length : Int) := by omega
  have q6 : (16 : Int) ≤ (l.length : Int) := by omega
  have q7 : (20 : Int) ≤ (l.length : Int) := by omega
  have q8 : (6 : Int) ≤ (l.length : Int) := by omega
  simp only [Option.bind_some, q1, q2, q3, q4, q5, q6, q7, q8, if_true, if_false, Nat.reduceLeDiff, Int.reduceLE]
theorem ifull {l : List Int} (hb : Bs l) (hl : l.length ≤ 1048576) {n : Nat} (h1 : 20 ≤ n) (h2 : n + 8 ≤ l.length) {k : Nat} (hk : 100 ≤ k) :
    (if ((l.drop ((n : Int) : Int).toNat).length : Int) < 8 then (some (0, 0, 0, 0, 0, 0, 0, 2)) else (if 9 < (l.length : Int) then (if 12 ≤ 16 then (if 16 ≤ (l.length : Int) then ((impl_get.f k ((l.take 16).drop 12)).bind fun t144 => (if 16 ≤ 20 then (if 20 ≤ (l.length : Int) then ((impl_get.f k ((l.take 20).drop 16)).bind fun t146 => (if 4 ≤ 6 then (if 6 ≤ (l.length : Int) then ((impl_get.f k ((l.take 6).drop 4)).bind fun t148 => (if 2 ≤ ((l.drop ((n : Int) : Int).toNat).length : Int) then ((impl_get.f k ((l.drop ((n : Int) : Int).toNat).take 2)).bind fun t150 => (if 2 ≤ 4 then (if 4 ≤ ((l.drop ((n : Int) : Int).toNat).length : Int) then ((impl_get.f k (((l.drop ((n : Int) : Int).toNat).take 4).drop 2)).bind fun t152 => (if 4 ≤ 8 then (if 8 ≤ ((l.drop ((n : Int) : Int).toNat).length : Int) then ((impl_get.f k (((l.drop ((n : Int) : Int).toNat).take 8).drop 4)).bind fun t154 => (some (wrap64 (rd l 9), t144, t146, t148, t150, t152, t154, 0))) else (none)) else (none))) else (none)) else (none))) else (none))) else (none)) else (none))) else (none)) else (none))) else (none)) else (none)) else (none))) = some (qfull l n) := by
  rw [Int.toNat_natCast]
  have hX : (l.drop n).length = l.length - n := List.length_drop ..
  have hbX : Bs (l.drop n) := hb.drop n
  unfold qfull
  generalize l.drop n = X at hX hbX ⊢
  rw [rd9 hb (by omega)]
  rw [iget_c (l := (l.take 16).drop 12) ((hb.take _).drop _) (by simp only [List.length_drop, List.length_take]; omega) (by omega), iget_c (l := (l.take 20).drop 16) ((hb.take _).drop _) (by simp only [List.length_drop, List.length_take]; omega) (by omega), iget_c (l := (l.take 6).drop 4) ((hb.take _).drop _) (by simp only [List.length_drop, List.length_take]; omega) (by omega)]
  rw [iget_c (l := X.take 2) (hbX.take _) (by simp only [List.length_take]; omega) (by omega), iget_c (l := (X.take 4).drop 2) ((hbX.take _).drop _) (by simp only [List.length_drop, List.length_take]; omega) (by omega), iget_c (l := (X.take 8).drop 4) ((hbX.take _).drop _) (by simp only [List.length_drop, List.length_take]; omega) (by omega)]
  have q1 : ¬ ((X.length : Int) < 8) := by omega
  have q2 : (2 : Int) ≤ (X.length : Int) := by omega
  have q3 : (4 : Int) ≤ (X.length : Int) := by omega
  have q4 : (8 : Int) ≤ (X.length : Int) := by omega
  have q5 : (9 : Int) < (l.length : Int) := by omega
  have q6 : (16 : Int) ≤ (l.length : Int) := by omega
  have q7 : (20 : Int) ≤ (l.length : Int) := by omega
  have q8 : (6 : Int) ≤ (l.length : Int) := by omega
  simp only [Option.bind_some, q1, q2, q3, q4, q5, q6, q7, q8, if_true, if_false, Nat.reduceLeDiff, Int.reduceLE]
theorem quote_same {l : List Int} (hb : Bs l) (hl : l.length ≤ 1048576) : ∃ r : Int × Int × Int × Int × Int × Int × Int × Int, ∀ k, l.length + 200 ≤ k → spec_ReadQuote.f k l = some r ∧ impl_ReadQuote.f k l = some r := by
  by_cases h0 : (l.length : Int) < 20
  · refine ⟨(0, 0, 0, 0, 0, 0, 0, 2), fun k hk => ?_⟩
    unfold spec_ReadQuote.f spec_l05ReadHead.f impl_ReadQuote.f
    rw [if_pos h0, if_pos h0]
    exact ⟨rfl, rfl⟩
  · have c0 : 0 < l.length := by omega
    have b0 := hb.get c0
    have r0 := rd_at (xs := l) (i := 0) c0
    rw [show ((0 : Nat) : Int) = 0 from rfl] at r0
    by_cases h4 : rd l 0 / 16 = 4
    · obtain ⟨n, hn⟩ : ∃ n : Nat, (n : Int) = rd l 0 % 16 * 4 := ⟨(rd l 0 % 16 * 4).toNat, by rw [r0]; omega⟩
      have hw : wrap64 (wrap64 (Go.bits .and .u8 (rd l 0) 15) * 4) = (n : Int) := by
        rw [and15 (by rw [r0]; exact b0), wr64 (a := rd l 0 % 16) (by omega), wr64 (by omega), hn]
      have hs : ∀ k, spec_ReadQuote.f k l = (if (n : Int) < 20 then spec_l05ReadHead.j0 k l (n : Int) true else spec_l05ReadHead.j0 k l (n : Int) (decide ((n : Int) > (l.length : Int)))).bind fun bt117 => (if bt117.2 = 0 then (if (l.length : Int) < (wrap64 (bt117.1 + 8)) then (some (0, 0, 0, 0, 0, 0, 0, 2)) else (if 0 ≤ bt117.1 then (if bt117.1 ≤ (wrap64 (bt117.1 + 8)) then (if (wrap64 (bt117.1 + 8)) ≤ (l.length : Int) then (if 9 < (l.length : Int) then (if 12 ≤ 16 then (if 16 ≤ (l.length : Int) then ((spec_l03Num.f k ((l.take 16).drop 12)).bind fun t122 => (if 16 ≤ 20 then (if 20 ≤ (l.length : Int) then ((spec_l03Num.f k ((l.take 20).drop 16)).bind fun t124 => (if 4 ≤ 6 then (if 6 ≤ (l.length : Int) then ((spec_l03Num.f k ((l.take 6).drop 4)).bind fun t126 => (if 2 ≤ (((l.take ((wrap64 (bt117.1 + 8)) : Int).toNat).drop (bt117.1 : Int).toNat).length : Int) then ((spec_l03Num.f k (((l.take ((wrap64 (bt117.1 + 8)) : Int).toNat).drop (bt117.1 : Int).toNat).take 2)).bind fun t128 => (if 2 ≤ 4 then (if 4 ≤ (((l.take ((wrap64 (bt117.1 + 8)) : Int).toNat).drop (bt117.1 : Int).toNat).length : Int) then ((spec_l03Num.f k ((((l.take ((wrap64 (bt117.1 + 8)) : Int).toNat).drop (bt117.1 : Int).toNat).take 4).drop 2)).bind fun t130 => ((spec_l03Num.f k (((l.take ((wrap64 (bt117.1 + 8)) : Int).toNat).drop (bt117.1 : Int).toNat).drop 4)).bind fun t132 => (some (wrap64 (rd l 9), t122, t124, t126, t128, t130, t132, 0)))) else (none)) else (none))) else (none))) else (none)) else (none))) else (none)) else (none))) else (none)) else (none)) else (none)) else (none)) else (none)) else (none))) else (some (0, 0, 0, 0, 0, 0, 0, bt117.2))) := by
        intro k
        unfold spec_ReadQuote.f spec_l05ReadHead.f
        rw [if_neg h0, if_pos (by omega), if_pos h4, hw]
      have hi : ∀ k, impl_ReadQuote.f k l = (if (n : Int) < 20 then impl_ReadQuote.j0 k l (n : Int) true else impl_ReadQuote.j0 k l (n : Int) (decide ((n : Int) > (l.length : Int)))) := by
        intro k
        unfold impl_ReadQuote.f
        rw [if_neg h0, if_pos (by omega), if_pos h4, hw]
      by_cases hbad : (n : Int) < 20 ∨ (n : Int) > (l.length : Int)
      · refine ⟨(0, 0, 0, 0, 0, 0, 0, 5), fun k hk => ?_⟩
        obtain ⟨k, rfl⟩ : ∃ m, k = m + 1 := ⟨k - 1, by omega⟩
        have es : spec_l05ReadHead.j0 (k + 1) l (n : Int) true = some (0, 5) := by rw [spec_l05ReadHead.j0]; rfl
        have ei : impl_ReadQuote.j0 (k + 1) l (n : Int) true = some (0, 0, 0, 0, 0, 0, 0, 5) := by rw [impl_ReadQuote.j0]; rfl
        rw [hs, hi]
        by_cases h20 : (n : Int) < 20
        · rw [if_pos h20, if_pos h20, es, ei]
          exact ⟨rfl, rfl⟩
        · rw [if_neg h20, if_neg h20, decide_eq_true (show (n : Int) > (l.length : Int) by omega), es, ei]
          exact ⟨rfl, rfl⟩
      · have h20 : ¬ (n : Int) < 20 := by omega
        have hd : decide ((n : Int) > (l.length : Int)) = false := decide_eq_false (by omega)
        have hbt := hb.take n
        have hlt : (l.take n).length ≤ l.length := by rw [List.length_take]; omega
        have es : ∀ k, l.length + 100 ≤ k → spec_l05ReadHead.j0 (k + 1) l (n : Int) false = some (if csum (l.take n) = 0 then ((n : Int), 0) else (0, 3)) := by
          intro k hk
          rw [spec_l05ReadHead.j0, if_neg (by simp), if_pos (by omega), if_pos (by omega), Int.toNat_natCast, scheck_f hbt (by omega) (by omega), Option.bind_some]
          by_cases hc : csum (l.take n) = 0 <;> simp [hc]
        have ei : ∀ k, l.length + 100 ≤ k → impl_ReadQuote.f (k + 1) l = (if csum (l.take n) = 0 then (if ((l.drop ((n : Int) : Int).toNat).length : Int) < 8 then (some (0, 0, 0, 0, 0, 0, 0, 2)) else (if 9 < (l.length : Int) then (if 12 ≤ 16 then (if 16 ≤ (l.length : Int) then ((impl_get.f k ((l.take 16).drop 12)).bind fun t144 => (if 16 ≤ 20 then (if 20 ≤ (l.length : Int) then ((impl_get.f k ((l.take 20).drop 16)).bind fun t146 => (if 4 ≤ 6 then (if 6 ≤ (l.length : Int) then ((impl_get.f k ((l.take 6).drop 4)).bind fun t148 => (if 2 ≤ ((l.drop ((n : Int) : Int).toNat).length : Int) then ((impl_get.f k ((l.drop ((n : Int) : Int).toNat).take 2)).bind fun t150 => (if 2 ≤ 4 then (if 4 ≤ ((l.drop ((n : Int) : Int).toNat).length : Int) then ((impl_get.f k (((l.drop ((n : Int) : Int).toNat).take 4).drop 2)).bind fun t152 => (if 4 ≤ 8 then (if 8 ≤ ((l.drop ((n : Int) : Int).toNat).length : Int) then ((impl_get.f k (((l.drop ((n : Int) : Int).toNat).take 8).drop 4)).bind fun t154 => (some (wrap64 (rd l 9), t144, t146, t148, t150, t152, t154, 0))) else (none)) else (none))) else (none)) else (none))) else (none))) else (none)) else (none))) else (none)) else (none))) else (none)) else (none)) else (none))) else some (0, 0, 0, 0, 0, 0, 0, 3)) := by
          intro k hk
          rw [hi, if_neg h20, hd, impl_ReadQuote.j0, if_neg (show ¬ (false = true) by simp), if_pos (show (0 : Int) ≤ (n : Int) by omega), if_pos (show (n : Int) ≤ (l.length : Int) by omega), show l.take ((n : Int) : Int).toNat = l.take n from by rw [Int.toNat_natCast], icheck_f hbt (by omega) (by omega), Option.bind_some]
        by_cases hc : csum (l.take n) = 0
        · by_cases h8 : (l.length : Int) < (n : Int) + 8
          · refine ⟨(0, 0, 0, 0, 0, 0, 0, 2), fun k hk => ⟨?_, ?_⟩⟩
            · obtain ⟨k, rfl⟩ : ∃ m, k = m + 1 := ⟨k - 1, by omega⟩
              rw [hs, if_neg h20, hd, es k (by omega), if_pos hc, Option.bind_some]
              refine (if_pos rfl).trans (if_pos ?_)
              show (l.length : Int) < wrap64 ((n : Int) + 8)
              rw [wr64 (by omega)]
              exact h8
            · obtain ⟨k, rfl⟩ : ∃ m, k = m + 1 := ⟨k - 1, by omega⟩
              rw [ei k (by omega), if_pos hc]
              refine if_pos ?_
              rw [Int.toNat_natCast, List.length_drop]
              omega
          · refine ⟨qfull l n, fun k hk => ⟨?_, ?_⟩⟩
            · obtain ⟨k, rfl⟩ : ∃ m, k = m + 1 := ⟨k - 1, by omega⟩
              rw [hs, if_neg h20, hd, es k (by omega), if_pos hc, Option.bind_some]
              refine (if_pos rfl).trans ?_
              exact sfull hb hl (by omega) (by omega) (by omega)
            · obtain ⟨k, rfl⟩ : ∃ m, k = m + 1 := ⟨k - 1, by omega⟩
              rw [ei k (by omega), if_pos hc]
              exact ifull hb hl (by omega) (by omega) (by omega)
        · refine ⟨(0, 0, 0, 0, 0, 0, 0, 3), fun k hk => ⟨?_, ?_⟩⟩
          · obtain ⟨k, rfl⟩ : ∃ m, k = m + 1 := ⟨k - 1, by omega⟩
            rw [hs, if_neg h20, hd, es k (by omega), if_neg hc, Option.bind_some]
            exact if_neg (show ¬ ((3 : Int) = 0) by decide)
          · obtain ⟨k, rfl⟩ : ∃ m, k = m + 1 := ⟨k - 1, by omega⟩
            rw [ei k (by omega), if_neg hc]
    · refine ⟨(0, 0, 0, 0, 0, 0, 0, 4), fun k hk => ?_⟩
      unfold spec_ReadQuote.f spec_l05ReadHead.f impl_ReadQuote.f
      have p0 : (0 : Int) < (l.length : Int) := by omega
      refine ⟨?_, ?_⟩
      · rw [if_neg h0, if_pos p0, if_neg h4]
        rfl
      · rw [if_neg h0, if_pos p0, if_neg h4]
theorem FnExactReadQuote : laws_FnExactReadQuote.Pure := by
  intro l _ _ hw
  have hb := Bs.of hw
  by_cases h : (l.length : Int) > 1048576
  · refine ⟨1, ?_⟩
    unfold laws_FnExactReadQuote.f
    rw [if_pos h]
  · have hn : l.length ≤ 1048576 := by omega
    obtain ⟨k, hk⟩ : ∃ k, k = l.length + 300 := ⟨_, rfl⟩
    refine ⟨k + 1, ?_⟩
    unfold laws_FnExactReadQuote.f
    rw [if_neg h, toB_f (by omega) (by omega)]
    simp only [Option.bind_some]
    obtain ⟨⟨a, b, c, d, e, f, g, q⟩, hr⟩ := quote_same hb hn
    rw [(hr (k + 1) (by omega)).1, (hr (k + 1) (by omega)).2]
    have hq : laws_eqQuote.f a b c d e f g a b c d e f g = some true := by
      unfold laws_eqQuote.f
      simp
    simp only [Option.bind_some, hq, if_true, bne_self_eq_false]
    rw [laws_FnExactReadQuote.j0, if_neg (by simp), toB_f (by omega) (by omega)]
    simp only [Option.bind_some]
    rw [eqB_f (by omega) (by omega)]
    simp

end Go.Proofs.Ytkfbcmbemihbnaa.Pure
