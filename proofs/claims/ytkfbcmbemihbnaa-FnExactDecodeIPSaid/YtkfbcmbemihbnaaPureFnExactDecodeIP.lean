/- DecodeIP of the program returns what DecodeIP of the reference returns, for all arguments, leaves its argument as it was, and its answer owns its memory; without conditions. -/
import Derived.Test.YtkfbcmbemihbnaaPFnExactDecodeIPx7
set_option linter.unusedVariables false
set_option linter.unusedSimpArgs false
namespace Go.Proofs.Ytkfbcmbemihbnaa.Pure
open Go.RowKit Go.Proofs.Ytkfbcmbemihbnaa.PFnExactDecodeIP Go.Proofs.YtkfbcmbemihbnaaW.PrintWords Go.Proofs.YtkfbcmbemihbnaaW.PrintLast

/-! ### base -/
theorem wf64 {a : Int} (h : (Lit.int .i64 a).wf = true) : -9223372036854775808 ≤ a ∧ a ≤ 9223372036854775807 := by
  have h1 : IntKind.i64.min = -9223372036854775808 := by decide
  have h2 : IntKind.i64.max = 9223372036854775807 := by decide
  simp only [Lit.wf, Bool.and_eq_true, decide_eq_true_eq] at h
  omega
theorem tm_pos {a : Int} (n : Int) (h : 0 ≤ a) : Int.tmod a n = a % n := Int.tmod_eq_emod_of_nonneg h
theorem tm_neg {a : Int} (n : Int) (h : a ≤ 0) : Int.tmod a n = -((-a) % n) := by
  have := Int.neg_tmod (-a) n
  rw [Int.neg_neg] at this
  rw [this, Int.tmod_eq_emod_of_nonneg (by omega)]
theorem td_pos {a : Int} (n : Int) (h : 0 ≤ a) : Int.tdiv a n = a / n := Int.tdiv_eq_ediv_of_nonneg h
theorem wr64 {a : Int} (h : -9223372036854775808 ≤ a ∧ a ≤ 9223372036854775807) : wrap64 a = a := by
  unfold wrap64
  omega
theorem dec_eq {p : Prop} [Decidable p] {b : Bool} (h : b = true ↔ p) : some b = some (decide p) := by
  rw [Option.some.injEq, Bool.eq_iff_iff, decide_eq_true_eq]
  exact h
theorem ite_dec (p q : Prop) [Decidable p] [Decidable q] : (if p then some (decide q) else some false) = some (decide (p ∧ q)) := by
  by_cases h : p <;> simp [h]
theorem beq_dec (a b : Int) : (a == b) = decide (a = b) := by
  rw [Bool.eq_iff_iff]
  simp

/-! ### bits -/
theorem wraps_i64 (n : Int) (h₀ : 0 ≤ n) (h₁ : n < 2 ^ 63) : IntKind.i64.wrap n = n := by rw [IntKind.wrap_i64]; omega
/-- The low bits of any whole number. -/
theorem and_low (i : Nat) (hi : i ≤ 62) (x : Int) : Go.bits .and .i64 x (2 ^ i - 1) = x % 2 ^ i := by
  have hpos : 0 < 2 ^ i := Nat.two_pow_pos i
  have h62 : 2 ^ i ≤ 2 ^ 62 := Nat.pow_le_pow_right (by decide) hi
  have hc : ((2 : Int) ^ i - 1) = ((2 ^ i - 1 : Nat) : Int) := by
    rw [Int.natCast_sub hpos]; simp
  have hx0 : 0 ≤ x % 18446744073709551616 := Int.emod_nonneg _ (by decide)
  have hx : (BitVec.ofInt 64 x).toNat = (x % 18446744073709551616).toNat := by rw [BitVec.toNat_ofInt]; rfl
  have hd : ((2 : Int) ^ i) ∣ 18446744073709551616 := by
    rw [show (18446744073709551616 : Int) = 2 ^ 64 from rfl]
    exact ⟨2 ^ (64 - i), by rw [← Int.pow_add, show i + (64 - i) = 64 from by omega]⟩
  have h2 : ((x % 18446744073709551616).toNat % 2 ^ i : Nat) = (x % 2 ^ i).toNat := by
    apply Int.ofNat.inj
    have e1 : (((x % 18446744073709551616).toNat % 2 ^ i : Nat) : Int) = x % 2 ^ i := by
      rw [Int.natCast_emod, Int.toNat_of_nonneg hx0, Int.natCast_pow]
      exact Int.emod_emod_of_dvd _ hd
    have e2 : 0 ≤ x % 2 ^ i := Int.emod_nonneg _ (by have : (0 : Int) < 2 ^ i := Int.pow_pos (by decide); omega)
    exact e1.trans (Int.toNat_of_nonneg e2).symm
  have e2 : 0 ≤ x % 2 ^ i := Int.emod_nonneg _ (by have : (0 : Int) < 2 ^ i := Int.pow_pos (by decide); omega)
  have e3 : x % 2 ^ i < 2 ^ i := Int.emod_lt_of_pos _ (Int.pow_pos (by decide))
  have e4 : (2 : Int) ^ i ≤ 2 ^ 62 := by exact_mod_cast h62
  have key : Go.bits .and .i64 x (2 ^ i - 1) = IntKind.i64.wrap (((BitVec.ofInt 64 x).toNat &&& (BitVec.ofInt 64 ((2 ^ i - 1 : Nat) : Int)).toNat : Nat) : Int) := by
    rw [hc]
    show IntKind.i64.wrap ((BitVec.ofInt 64 x &&& BitVec.ofInt 64 ((2 ^ i - 1 : Nat) : Int)).toNat : Int) = _
    rw [BitVec.toNat_and]
  rw [key, hx]
  have hm : (BitVec.ofInt 64 ((2 ^ i - 1 : Nat) : Int)).toNat = 2 ^ i - 1 := by
    rw [BitVec.ofInt_natCast, BitVec.toNat_ofNat]
    exact Nat.mod_eq_of_lt (by omega)
  rw [hm, Nat.and_two_pow_sub_one_eq_mod, h2, Int.toNat_of_nonneg e2]
  exact wraps_i64 _ e2 (by omega)
theorem and_65535 (x : Int) : Go.bits .and .i64 x 65535 = x % 65536 := and_low 16 (by decide) x
theorem and_255 (x : Int) : Go.bits .and .i64 x 255 = x % 256 := and_low 8 (by decide) x
theorem nat_and_high (a n : Nat) (ha : a < 2 ^ 32) (hn : n ≤ 32) : a &&& ((2 ^ (32 - n) - 1) * 2 ^ n) = a / 2 ^ n * 2 ^ n := by
  apply Nat.eq_of_testBit_eq
  intro i
  rw [Nat.testBit_and, Nat.testBit_mul_two_pow, Nat.testBit_mul_two_pow, Nat.testBit_div_two_pow, Nat.testBit_two_pow_sub_one]
  by_cases h : n ≤ i
  · simp only [h, decide_true, Bool.true_and]
    rw [show i - n + n = i from by omega]
    by_cases h3 : i - n < 32 - n
    · simp [h3]
    · have : a.testBit i = false := Nat.testBit_lt_two_pow (Nat.lt_of_lt_of_le ha (Nat.pow_le_pow_right (by decide) (by omega)))
      simp [this]
  · simp [h]
theorem and_high (a : Int) (n : Nat) (h0 : 0 ≤ a) (h1 : a ≤ 4294967295) (hn : n ≤ 32) : Go.bits .and .i64 a ((2 ^ (32 - n) - 1) * 2 ^ n) = a / 2 ^ n * 2 ^ n := by
  obtain ⟨b, rfl⟩ := Int.eq_ofNat_of_zero_le h0
  have hc : (((2 : Int) ^ (32 - n) - 1) * 2 ^ n) = (((2 ^ (32 - n) - 1) * 2 ^ n : Nat) : Int) := by
    rw [Int.natCast_mul, Int.natCast_sub (Nat.two_pow_pos _)]; simp
  have hl : (2 ^ (32 - n) - 1) * 2 ^ n ≤ 4294967295 := by
    rw [Nat.sub_mul, ← Nat.pow_add, show 32 - n + n = 32 from by omega]
    have := Nat.two_pow_pos n
    omega
  rw [hc, (bits_nat .i64 63 (by decide) wraps_i64 b _ (by omega) (by omega)).1, nat_and_high b n (by omega) hn]
  simp

/-! ### lists -/
theorem rd_at {xs : List Int} {i : Nat} (h : i < xs.length) : rd xs (i : Int) = xs[i] := by
  unfold rd
  rw [Int.toNat_natCast, List.getD_eq_getElem?_getD, List.getElem?_eq_getElem h]
  rfl
theorem wr_succ {i n : Nat} (h : i < n) (hn : n ≤ 281474976710656) : wrap64 ((i : Int) + 1) = ((i + 1 : Nat) : Int) := by
  rw [wr64 (by omega)]
  omega
theorem maxLen_le {n : Nat} (h : n ≤ 1048576) : n ≤ 281474976710656 := by omega

/-! ### tobytes -/
theorem toB_l (x0 : List Int) (hn : x0.length ≤ 281474976710656) (d : Nat) : ∀ (k i : Nat) (x3 : List Int), i + d = x0.length → d < k → x3.length = x0.length → (∀ j, j < i → x3[j]? = x0[j]?) → laws_toByteS.l0 k x0 x3 (i : Int) = some x0 := by
  induction d with
  | zero =>
    intro k i x3 hi hk hl he
    obtain ⟨k, rfl⟩ : ∃ m, k = m + 1 := ⟨k - 1, by omega⟩
    simp only [laws_toByteS.l0]
    rw [if_neg (by omega)]
    congr 1
    apply List.ext_getElem?
    intro j
    by_cases hj : j < i
    · exact he j hj
    · rw [List.getElem?_eq_none (by omega), List.getElem?_eq_none (by omega)]
  | succ d ih =>
    intro k i x3 hi hk hl he
    obtain ⟨k, rfl⟩ : ∃ m, k = m + 1 := ⟨k - 1, by omega⟩
    simp only [laws_toByteS.l0]
    rw [if_pos (by omega), if_pos (by omega), if_pos (by omega), wr_succ (n := x0.length) (by omega) hn]
    refine ih k (i + 1) _ (by omega) (by omega) (by simp [hl]) ?_
    intro j hj
    rw [Int.toNat_natCast]
    by_cases e : j = i
    · subst e
      rw [List.getElem?_set_self (by omega), rd_at (by omega), List.getElem?_eq_getElem (by omega)]
    · rw [List.getElem?_set_ne (by omega)]
      exact he j (by omega)
theorem toB_f {l : List Int} (hn : l.length ≤ 281474976710656) {k : Nat} (hk : l.length < k) : laws_toByteS.f k l = some l := by
  unfold laws_toByteS.f
  rw [if_pos (by omega), if_pos (by simpa using hn), Int.toNat_natCast]
  exact toB_l l hn l.length k 0 _ (by omega) hk (by simp) (fun j hj => absurd hj (by omega))

/-! ### eqbytes -/
theorem eqB_l (x0 x1 : List Int) (hn : x0.length ≤ 281474976710656) (hl : x0.length = x1.length) (d : Nat) : ∀ (k i : Nat), i + d = x0.length → d < k → (∀ j, j < i → x0[j]? = x1[j]?) → laws_eqByteS.l0 k x0 x1 (i : Int) = some (decide (x0 = x1)) := by
  induction d with
  | zero =>
    intro k i hi hk he
    obtain ⟨k, rfl⟩ : ∃ m, k = m + 1 := ⟨k - 1, by omega⟩
    simp only [laws_eqByteS.l0]
    rw [if_neg (by omega)]
    have : x0 = x1 := by
      apply List.ext_getElem?
      intro j
      by_cases hj : j < i
      · exact he j hj
      · rw [List.getElem?_eq_none (by omega), List.getElem?_eq_none (by omega)]
    simp [this]
  | succ d ih =>
    intro k i hi hk he
    obtain ⟨k, rfl⟩ : ∃ m, k = m + 1 := ⟨k - 1, by omega⟩
    simp only [laws_eqByteS.l0]
    rw [if_pos (by omega), if_pos (by omega), if_pos (by omega), wr_succ (n := x0.length) (by omega) hn, rd_at (by omega), rd_at (by omega)]
    by_cases e : x0[i] = x1[i]
    · rw [if_pos e]
      refine ih k (i + 1) (by omega) (by omega) ?_
      intro j hj
      by_cases ej : j = i
      · subst ej
        rw [List.getElem?_eq_getElem (by omega), List.getElem?_eq_getElem (by omega), e]
      · exact he j (by omega)
    · rw [if_neg e]
      have : x0 ≠ x1 := fun h => by
        subst h
        exact e rfl
      simp [this]
theorem eqB_f {l m : List Int} (hn : l.length ≤ 281474976710656) {k : Nat} (hk : l.length < k) : laws_eqByteS.f k l m = some (decide (l = m)) := by
  unfold laws_eqByteS.f
  by_cases h : l.length = m.length
  · rw [if_pos (by omega)]
    exact eqB_l l m hn h l.length k 0 (by omega) hk (fun j hj => absurd hj (by omega))
  · rw [if_neg (by omega)]
    have : l ≠ m := fun e => h (by rw [e])
    simp [this]

/-! ### wsum -/
/-- What a sum of numbers of two bytes folds to. -/
def fold (s : Int) : Int := if s = 0 then 0 else (s - 1) % 65535 + 1
theorem fold_le (s : Int) (h : 0 ≤ s) : 0 ≤ fold s ∧ fold s ≤ 65535 := by unfold fold; split <;> omega
theorem fold_low {s : Int} (h : 0 ≤ s ∧ s ≤ 65535) : fold s = s := by unfold fold; split <;> omega
theorem fold_step {s : Int} (h : s > 65535) : fold (s / 65536 + s % 65536) = fold s := by
  unfold fold
  rw [if_neg (by omega), if_neg (by omega)]
  omega
theorem fold_sub {s : Int} (h : s > 65535) : fold (s - 65535) = fold s := by
  unfold fold
  rw [if_neg (by omega), if_neg (by omega)]
  omega
/-- The sum of bytes: the one at a place with 'b' counts 256 times, and so on in turn. -/
def wsp : Bool → List Int → Int
  | _, [] => 0
  | true, a :: r => a * 256 + wsp false r
  | false, a :: r => a + wsp true r
/-- All are bytes. -/
def Bs (l : List Int) : Prop := ∀ x ∈ l, 0 ≤ x ∧ x ≤ 255
theorem Bs.get {l : List Int} (h : Bs l) {i : Nat} (hi : i < l.length) : 0 ≤ l[i] ∧ l[i] ≤ 255 := h _ (List.getElem_mem hi)
theorem Bs.of {l : List Int} (h : ∀ x ∈ l, (Lit.int .u8 x).wf = true) : Bs l := by
  intro x hx
  have hw := h x hx
  have h1 : IntKind.u8.min = 0 := by decide
  have h2 : IntKind.u8.max = 255 := by decide
  simp only [Lit.wf, Bool.and_eq_true, decide_eq_true_eq] at hw
  omega
theorem Bs.append {a b : List Int} (ha : Bs a) (hb : Bs b) : Bs (a ++ b) := by
  intro x hx
  rcases List.mem_append.1 hx with h | h
  · exact ha x h
  · exact hb x h
theorem Bs.take {l : List Int} (h : Bs l) (n : Nat) : Bs (l.take n) := fun x hx => h x (List.mem_of_mem_take hx)
theorem Bs.drop {l : List Int} (h : Bs l) (n : Nat) : Bs (l.drop n) := fun x hx => h x (List.mem_of_mem_drop hx)
theorem Bs.tail {a : Int} {l : List Int} (h : Bs (a :: l)) : Bs l := fun x hx => h x (List.mem_cons_of_mem _ hx)
theorem wsp_bd (l : List Int) : ∀ (b : Bool), Bs l → 0 ≤ wsp b l ∧ wsp b l ≤ 65280 * (l.length : Int) := by
  induction l with
  | nil => intro b _; cases b <;> simp [wsp]
  | cons a r ih =>
    intro b h
    have ha := h a (List.mem_cons_self ..)
    have h1 := ih true h.tail
    have h2 := ih false h.tail
    cases b <;> (simp only [wsp, List.length_cons]; omega)
theorem drop_cons {l : List Int} {i : Nat} (h : i < l.length) : l.drop i = l[i] :: l.drop (i + 1) := List.drop_eq_getElem_cons h
/-- The checksum of bytes. -/
def csum (l : List Int) : Int := 65535 - fold (wsp true l)
theorem csum_le {l : List Int} (h : Bs l) : 0 ≤ csum l ∧ csum l ≤ 65535 := by
  have := fold_le _ (wsp_bd l true h).1
  unfold csum
  omega

/-! ### num -/
/-- The number that bytes behind a number tell, the high one first. -/
def numa : Int → List Int → Int
  | a, [] => a
  | a, b :: r => numa (a * 256 + b) r
theorem pow_le6 {i : Nat} (h : i ≤ 6) : (2 : Int) ^ (8 * i) ≤ 281474976710656 := by
  rcases (show i = 0 ∨ i = 1 ∨ i = 2 ∨ i = 3 ∨ i = 4 ∨ i = 5 ∨ i = 6 by omega) with rfl | rfl | rfl | rfl | rfl | rfl | rfl <;> decide
theorem pow_8 (i : Nat) : (2 : Int) ^ (8 * (i + 1)) = 2 ^ (8 * i) * 256 := by
  rw [show 8 * (i + 1) = 8 * i + 8 from by omega, Int.pow_add]
  rfl
theorem numa_bd (l : List Int) : ∀ (i : Nat) (a : Int), Bs l → 0 ≤ a → a < 2 ^ (8 * i) → 0 ≤ numa a l ∧ numa a l < 2 ^ (8 * (i + l.length)) := by
  induction l with
  | nil => intro i a _ h0 h1; exact ⟨h0, h1⟩
  | cons b r ih =>
    intro i a hb h0 h1
    have hb0 := hb b (List.mem_cons_self ..)
    have e := pow_8 i
    have := ih (i + 1) (a * 256 + b) hb.tail (by omega) (by omega)
    rw [show i + 1 + r.length = i + (b :: r).length from by simp; omega] at this
    exact this

/-! ### specnum -/
theorem snum_l (l : List Int) (hb : Bs l) (hn : l.length ≤ 7) (d : Nat) : ∀ (k i : Nat) (s : Int), i + d = l.length → d < k → 0 ≤ s → s < 2 ^ (8 * i) → spec_l03Num.l0 k l s (i : Int) = some (numa s (l.drop i)) := by
  induction d with
  | zero =>
    intro k i s hi hk h0 h1
    obtain ⟨k, rfl⟩ : ∃ m, k = m + 1 := ⟨k - 1, by omega⟩
    simp only [spec_l03Num.l0]
    rw [if_neg (by omega), List.drop_eq_nil_of_le (by omega)]
    rfl
  | succ d ih =>
    intro k i s hi hk h0 h1
    obtain ⟨k, rfl⟩ : ∃ m, k = m + 1 := ⟨k - 1, by omega⟩
    have c1 : i < l.length := by omega
    have b1 := hb.get c1
    have p1 := pow_le6 (i := i) (by omega)
    have p2 := pow_8 i
    simp only [spec_l03Num.l0]
    rw [if_pos (by omega), if_pos (by omega), rd_at c1, wr64 (a := l[i]) (by omega), wr64 (a := s * 256) (by omega), wr64 (a := s * 256 + l[i]) (by omega), wr_succ c1 (by omega), ih k (i + 1) _ (by omega) (by omega) (by omega) (by omega), drop_cons c1]
    rfl
theorem snum_f {l : List Int} (hb : Bs l) (hn : l.length ≤ 7) {k : Nat} (hk : l.length < k) : spec_l03Num.f k l = some (numa 0 l) := by
  unfold spec_l03Num.f
  have := snum_l l hb hn l.length k 0 0 (by omega) hk (by omega) (by decide)
  simpa using this

/-! ### implget -/
theorem or_byte {s b : Int} (h0 : 0 ≤ s) (h1 : s < 281474976710656) (hb : 0 ≤ b ∧ b ≤ 255) : Go.bits .or .i64 (s * 256) b = s * 256 + b :=
  bits_join .i64 63 (by decide) wraps_i64 8 (s * 256) b (by omega) (by omega) (by omega) hb.1 (by omega) (by omega)
theorem iget_l (l : List Int) (hb : Bs l) (hn : l.length ≤ 7) (d : Nat) : ∀ (k i : Nat) (s : Int), i + d = l.length → d < k → 0 ≤ s → s < 2 ^ (8 * i) → impl_get.l0 k s l (l.length : Int) (i : Int) = some (numa s (l.drop i)) := by
  induction d with
  | zero =>
    intro k i s hi hk h0 h1
    obtain ⟨k, rfl⟩ : ∃ m, k = m + 1 := ⟨k - 1, by omega⟩
    simp only [impl_get.l0]
    rw [if_neg (by omega), List.drop_eq_nil_of_le (by omega)]
    rfl
  | succ d ih =>
    intro k i s hi hk h0 h1
    obtain ⟨k, rfl⟩ : ∃ m, k = m + 1 := ⟨k - 1, by omega⟩
    have c1 : i < l.length := by omega
    have b1 := hb.get c1
    have p1 := pow_le6 (i := i) (by omega)
    have p2 := pow_8 i
    simp only [impl_get.l0]
    rw [if_pos (by omega), if_pos (by omega), if_pos (by omega), rd_at c1, wr64 (a := l[i]) (by omega), wr64 (a := s * 256) (by omega), or_byte h0 (by omega) b1, wr_succ c1 (by omega), ih k (i + 1) _ (by omega) (by omega) (by omega) (by omega), drop_cons c1]
    rfl
theorem iget_f {l : List Int} (hb : Bs l) (hn : l.length ≤ 7) {k : Nat} (hk : l.length < k) : impl_get.f k l = some (numa 0 l) := by
  unfold impl_get.f
  have := iget_l l hb hn l.length k 0 0 (by omega) hk (by omega) (by decide)
  simpa using this

/-! ### specsum -/
theorem ssum_l (l : List Int) (hb : Bs l) (hn : l.length ≤ 1048576) (d : Nat) : ∀ (k i : Nat) (s : Int), l.length - i ≤ d → d < k → 0 ≤ s → s ≤ 65535 → i ≤ l.length + 1 → spec_l01Sum.l0 k l s (i : Int) = some (fold (s + wsp true (l.drop i))) := by
  induction d with
  | zero =>
    intro k i s hi hk h0 h1 hl
    obtain ⟨k, rfl⟩ : ∃ m, k = m + 1 := ⟨k - 1, by omega⟩
    simp only [spec_l01Sum.l0]
    rw [if_neg (by omega), List.drop_eq_nil_of_le (by omega)]
    simp only [wsp, Int.add_zero]
    rw [fold_low ⟨h0, h1⟩]
  | succ d ih =>
    intro k i s hi hk h0 h1 hl
    obtain ⟨k, rfl⟩ : ∃ m, k = m + 1 := ⟨k - 1, by omega⟩
    simp only [spec_l01Sum.l0]
    by_cases c1 : i < l.length
    · have b1 := hb.get c1
      rw [if_pos (by omega), if_pos (by omega), wr64 (a := (i : Int) + 1) (by omega), rd_at c1, wr64 (a := l[i]) (by omega), wr64 (a := l[i] * 256) (by omega), drop_cons c1]
      by_cases c2 : i + 1 < l.length
      · have b2 := hb.get c2
        have bd := wsp_bd (l.drop (i + 1 + 1)) true (hb.drop _)
        rw [if_pos (by omega), if_pos (by omega), show (i : Int) + 1 = ((i + 1 : Nat) : Int) from by omega, rd_at c2, wr64 (a := l[i + 1]) (by omega), wr64 (a := l[i] * 256 + l[i + 1]) (by omega), wr64 (a := s + (l[i] * 256 + l[i + 1])) (by omega), wr64 (a := (i : Int) + 2) (by omega), show (i : Int) + 2 = ((i + 1 + 1 : Nat) : Int) from by omega, drop_cons c2]
        simp only [wsp]
        by_cases c3 : s + (l[i] * 256 + l[i + 1]) > 65535
        · rw [if_pos c3, wr64 (by omega), ih k _ _ (by omega) (by omega) (by omega) (by omega) (by omega)]
          rw [← fold_sub (s := s + (l[i] * 256 + (l[i + 1] + wsp true (l.drop (i + 1 + 1))))) (by omega)]
          congr 2
          omega
        · rw [if_neg c3, ih k _ _ (by omega) (by omega) (by omega) (by omega) (by omega)]
          congr 2
          omega
      · rw [if_neg (by omega), wr64 (a := s + l[i] * 256) (by omega), wr64 (a := (i : Int) + 2) (by omega), show (i : Int) + 2 = ((i + 2 : Nat) : Int) from by omega, List.drop_eq_nil_of_le (show l.length ≤ i + 1 by omega)]
        have e2 : l.drop (i + 2) = [] := List.drop_eq_nil_of_le (by omega)
        simp only [wsp, Int.add_zero]
        by_cases c3 : s + l[i] * 256 > 65535
        · rw [if_pos c3, wr64 (by omega), ih k _ _ (by omega) (by omega) (by omega) (by omega) (by omega), e2]
          simp only [wsp, Int.add_zero]
          rw [← fold_sub (s := s + l[i] * 256) c3]
        · rw [if_neg c3, ih k _ _ (by omega) (by omega) (by omega) (by omega) (by omega), e2]
          simp only [wsp, Int.add_zero]
    · rw [if_neg (by omega), List.drop_eq_nil_of_le (by omega)]
      simp only [wsp, Int.add_zero]
      rw [fold_low ⟨h0, h1⟩]
theorem scheck_f {l : List Int} (hb : Bs l) (hn : l.length ≤ 1048576) {k : Nat} (hk : l.length < k) : spec_Checksum.f k l = some (csum l) := by
  unfold spec_Checksum.f spec_l01Sum.f
  have h := ssum_l l hb hn l.length k 0 0 (by omega) hk (by omega) (by omega) (by omega)
  rw [show ((0 : Nat) : Int) = 0 from rfl] at h
  have bd := wsp_bd l true hb
  have fl := fold_le _ bd.1
  rw [h]
  simp only [Option.bind_some, List.drop_zero, Int.zero_add]
  rw [wr64 (by omega)]
  rfl

/-! ### carried -/
theorem wrap_u64 (n : Int) : IntKind.u64.wrap n = n % 18446744073709551616 := by simp [IntKind.wrap, IntKind.bits, IntKind.signed]
theorem wru {x : Int} (h : 0 ≤ x ∧ x < 18446744073709551616) : IntKind.u64.wrap x = x := by rw [wrap_u64]; omega
theorem wraps_u64 (n : Int) (h₀ : 0 ≤ n) (h₁ : n < 2 ^ 63) : IntKind.u64.wrap n = n := by rw [wrap_u64]; omega
theorem low_u64 (i : Nat) (hi : i ≤ 62) (x : Int) (h0 : 0 ≤ x) (h1 : x < 18446744073709551616) : Go.bits .and .u64 x (2 ^ i - 1) = x % 2 ^ i := by
  obtain ⟨a, rfl⟩ := Int.eq_ofNat_of_zero_le h0
  have hpos : 0 < 2 ^ i := Nat.two_pow_pos i
  have h62 : 2 ^ i ≤ 2 ^ 62 := Nat.pow_le_pow_right (by decide) hi
  have hc : ((2 : Int) ^ i - 1) = ((2 ^ i - 1 : Nat) : Int) := by
    rw [Int.natCast_sub hpos]; simp
  have hw : ∀ n : Int, 0 ≤ n → n < 2 ^ 64 → IntKind.u64.wrap n = n := fun n a b => by rw [wrap_u64]; omega
  rw [hc, (bits_nat .u64 64 (by decide) hw a _ (by omega) (by omega)).1, Nat.and_two_pow_sub_one_eq_mod]
  simp
theorem u64_65535 (x : Int) (h0 : 0 ≤ x) (h1 : x < 18446744073709551616) : Go.bits .and .u64 x 65535 = x % 65536 := low_u64 16 (by decide) x h0 h1
theorem not_u64 (x : Int) (h0 : 0 ≤ x) (h1 : x < 18446744073709551616) : Go.bits .xor .u64 18446744073709551615 x = 18446744073709551615 - x := by
  obtain ⟨a, rfl⟩ := Int.eq_ofNat_of_zero_le h0
  have key : Go.bits .xor .u64 18446744073709551615 (a : Int) = IntKind.u64.wrap ((BitVec.ofInt 64 18446744073709551615 ^^^ BitVec.ofInt 64 (a : Int)).toNat : Int) := rfl
  rw [key, show BitVec.ofInt 64 18446744073709551615 = BitVec.allOnes 64 from by decide, BitVec.allOnes_xor, BitVec.toNat_not, BitVec.ofInt_natCast, BitVec.toNat_ofNat, wrap_u64]
  omega
theorem not_i64 (x : Int) (h : -9223372036854775808 ≤ x ∧ x ≤ 9223372036854775807) : Go.bits .xor .i64 (-1) x = -1 - x := by
  have key : Go.bits .xor .i64 (-1) x = IntKind.i64.wrap ((BitVec.ofInt 64 (-1) ^^^ BitVec.ofInt 64 x).toNat : Int) := rfl
  rw [key, show BitVec.ofInt 64 (-1) = BitVec.allOnes 64 from by decide, BitVec.allOnes_xor, BitVec.toNat_not, BitVec.toNat_ofInt, IntKind.wrap_i64]
  omega
theorem carried_f {s : Int} (h0 : 0 ≤ s) (h1 : s < 281474976710656) {k : Nat} (hk : 8 ≤ k) : impl_carried.f k s = some (fold s) := by
  have h8 : impl_carried.f 8 s = some (fold s) := by
    unfold impl_carried.f
    have step : ∀ (k : Nat) (t : Int), 0 ≤ t → t < 281474976710656 → t > 65535 → impl_carried.l0 (k + 1) t = impl_carried.l0 k (t / 65536 + t % 65536) := by
      intro k t a b c
      simp only [impl_carried.l0]
      rw [if_pos c, u64_65535 _ a (by omega), wrap_u64, Int.emod_eq_of_lt (by omega) (by omega)]
    have stop : ∀ (k : Nat) (t : Int), 0 ≤ t → t ≤ 65535 → impl_carried.l0 (k + 1) t = some (fold t) := by
      intro k t a b
      simp only [impl_carried.l0]
      rw [if_neg (by omega), fold_low ⟨a, b⟩]
    by_cases a1 : s > 65535
    · rw [step 7 s h0 h1 a1, ← fold_step a1]
      generalize hs : s / 65536 + s % 65536 = s1
      have b1 : 0 ≤ s1 ∧ s1 < 4295032832 := by omega
      by_cases a2 : s1 > 65535
      · rw [step 6 s1 (by omega) (by omega) a2, ← fold_step a2]
        generalize hs2 : s1 / 65536 + s1 % 65536 = s2
        have b2 : 0 ≤ s2 ∧ s2 < 196608 := by omega
        by_cases a3 : s2 > 65535
        · rw [step 5 s2 (by omega) (by omega) a3, ← fold_step a3]
          generalize hs3 : s2 / 65536 + s2 % 65536 = s3
          have b3 : 0 ≤ s3 ∧ s3 < 65540 := by omega
          by_cases a4 : s3 > 65535
          · rw [step 4 s3 (by omega) (by omega) a4, ← fold_step a4]
            exact stop 3 _ (by omega) (by omega)
          · exact stop 4 _ (by omega) (by omega)
        · exact stop 5 _ (by omega) (by omega)
      · exact stop 6 _ (by omega) (by omega)
    · exact stop 7 _ (by omega) (by omega)
  exact at_rounds (fun k => impl_carried.mono s k) hk h8

/-! ### implsum -/
theorem isum_l (l : List Int) (hb : Bs l) (hn : l.length ≤ 1048576) (d : Nat) : ∀ (k i : Nat) (s : Int), i + d = l.length → d + 8 < k → 0 ≤ s → s + 65280 * (d : Int) < 281474976710656 → impl_Checksum.l0 k s l (l.length : Int) (i : Int) = some (65535 - fold (s + wsp (i % 2 == 0) (l.drop i))) := by
  induction d with
  | zero =>
    intro k i s hi hk h0 h1
    obtain ⟨k, rfl⟩ : ∃ m, k = m + 1 := ⟨k - 1, by omega⟩
    simp only [impl_Checksum.l0]
    rw [if_neg (by omega), List.drop_eq_nil_of_le (by omega), carried_f h0 (by omega) (by omega)]
    have e : ∀ b, wsp b [] = 0 := fun b => by cases b <;> rfl
    rw [e]
    simp only [Option.bind_some, Int.add_zero]
    have fl := fold_le s h0
    rw [not_u64 _ fl.1 (by omega), u64_65535 _ (by omega) (by omega), wr64 (by omega)]
    congr 1
    omega
  | succ d ih =>
    intro k i s hi hk h0 h1
    obtain ⟨k, rfl⟩ : ∃ m, k = m + 1 := ⟨k - 1, by omega⟩
    have c1 : i < l.length := by omega
    have b1 := hb.get c1
    simp only [impl_Checksum.l0]
    rw [if_pos (by omega), if_pos (by omega), if_pos (by omega), rd_at c1, tm_pos _ (by omega), wr_succ c1 (by omega), drop_cons c1, wrap_u64 l[i], Int.emod_eq_of_lt b1.1 (by omega)]
    by_cases c2 : i % 2 = 0
    · rw [if_pos (by omega), wrap_u64 (l[i] * 256), Int.emod_eq_of_lt (by omega) (by omega), wrap_u64, Int.emod_eq_of_lt (by omega) (by omega), ih k (i + 1) _ (by omega) (by omega) (by omega) (by omega)]
      rw [show (i % 2 == 0) = true from by simp [c2], show ((i + 1) % 2 == 0) = false from by simp; omega]
      simp only [wsp]
      congr 3
      omega
    · rw [if_neg (by omega), wrap_u64, Int.emod_eq_of_lt (by omega) (by omega), ih k (i + 1) _ (by omega) (by omega) (by omega) (by omega)]
      rw [show (i % 2 == 0) = false from by simp; omega, show ((i + 1) % 2 == 0) = true from by simp; omega]
      simp only [wsp]
      congr 3
      omega
theorem icheck_f {l : List Int} (hb : Bs l) (hn : l.length ≤ 1048576) {k : Nat} (hk : l.length + 8 < k) : impl_Checksum.f k l = some (csum l) := by
  unfold impl_Checksum.f
  have h := isum_l l hb hn l.length k 0 0 (by omega) hk (by omega) (by omega)
  rw [show ((0 : Nat) : Int) = 0 from rfl] at h
  rw [h]
  simp only [List.drop_zero, Int.zero_add]
  rfl

/-! ### dup -/
theorem dup_f {l : List Int} (h : l.length ≤ 1048576) : impl_dup.f l = some l := by
  unfold impl_dup.f
  rw [if_pos (by simp; omega)]
  rfl

/-! ### l01copy -/
theorem copy_l (x0 : List Int) (hn : x0.length ≤ 1048576) (d : Nat) : ∀ (k i : Nat), i + d = x0.length → d < k → spec_l01Copy.l0 k x0 (x0.take i) (i : Int) = some x0 := by
  induction d with
  | zero =>
    intro k i hi hk
    obtain ⟨k, rfl⟩ : ∃ m, k = m + 1 := ⟨k - 1, by omega⟩
    simp only [spec_l01Copy.l0]
    rw [if_neg (by omega), List.take_of_length_le (by omega)]
  | succ d ih =>
    intro k i hi hk
    obtain ⟨k, rfl⟩ : ∃ m, k = m + 1 := ⟨k - 1, by omega⟩
    simp only [spec_l01Copy.l0]
    rw [if_pos (by omega), if_pos (by omega), if_pos (by rw [List.length_take]; omega), wr_succ (n := x0.length) (by omega) (by omega), rd_at (by omega), ← List.take_succ_eq_append_getElem (by omega)]
    exact ih k (i + 1) (by omega) (by omega)
theorem copy_f {l : List Int} (hn : l.length ≤ 1048576) {k : Nat} (hk : l.length < k) : spec_l01Copy.f k l = some l := copy_l l hn l.length k 0 (by omega) hk

/-! ### marks -/
/-- n marks from a number on. -/
def mks (a : Int) : Nat → List Int
  | 0 => []
  | n + 1 => mks a n ++ [(a + n) % 256]
theorem mks_len (a : Int) (n : Nat) : (mks a n).length = n := by
  induction n with
  | zero => rfl
  | succ n ih => simp [mks, ih]
theorem mks_at (a : Int) (n : Nat) : ∀ j, j < n → (mks a n)[j]? = some ((a + j) % 256) := by
  induction n with
  | zero => intro j h; omega
  | succ n ih =>
    intro j h
    unfold mks
    by_cases e : j < n
    · rw [List.getElem?_append_left (by rw [mks_len]; exact e)]
      exact ih j e
    · obtain rfl : j = n := by omega
      rw [List.getElem?_append_right (by rw [mks_len]; exact Nat.le_refl _), mks_len]
      simp
theorem markB_l (n : Nat) (a : Int) (ha : 0 ≤ a ∧ a ≤ 1099511627776) (hn : n ≤ 1099511627776) (d : Nat) : ∀ (k i : Nat) (x0 : List Int), x0.length = n → i + d = n → d < k → (∀ j, j < i → x0[j]? = some ((a + j) % 256)) → laws_markByteS.l0 k x0 (a + i) (i : Int) = some (a + n, mks a n) := by
  induction d with
  | zero =>
    intro k i x0 hl hi hk he
    obtain ⟨k, rfl⟩ : ∃ m, k = m + 1 := ⟨k - 1, by omega⟩
    simp only [laws_markByteS.l0]
    rw [if_neg (by omega)]
    congr 1
    rw [Prod.mk.injEq]
    refine ⟨by omega, ?_⟩
    apply List.ext_getElem?
    intro j
    by_cases hj : j < n
    · rw [he j (by omega), mks_at _ _ _ hj]
    · rw [List.getElem?_eq_none (by omega), List.getElem?_eq_none (by rw [mks_len]; omega)]
  | succ d ih =>
    intro k i x0 hl hi hk he
    obtain ⟨k, rfl⟩ : ∃ m, k = m + 1 := ⟨k - 1, by omega⟩
    simp only [laws_markByteS.l0]
    rw [if_pos (by omega), if_pos (by omega), wr64 (a := (i : Int) + 1) (by omega), wr64 (by omega), show a + (i : Int) + 1 = a + ((i + 1 : Nat) : Int) from by omega, show (i : Int) + 1 = ((i + 1 : Nat) : Int) from by omega, Int.toNat_natCast]
    refine ih k (i + 1) _ (by simp [hl]) (by omega) (by omega) ?_
    intro j hj
    by_cases e : j = i
    · subst e
      rw [List.getElem?_set_self (by omega)]
    · rw [List.getElem?_set_ne (by omega)]
      exact he j (by omega)
theorem markB_f {l : List Int} {a : Int} (ha : 0 ≤ a ∧ a ≤ 1099511627776) (hn : l.length ≤ 1099511627776) {k : Nat} (hk : l.length < k) : laws_markByteS.f k l a = some (a + l.length, mks a l.length) := by
  unfold laws_markByteS.f
  have := markB_l l.length a ha hn l.length k 0 l rfl (by omega) hk (fun j hj => absurd hj (by omega))
  simpa using this
theorem heldB_l (n : Nat) (a : Int) (ha : 0 ≤ a ∧ a ≤ 1099511627776) (hn : n ≤ 1099511627776) (d : Nat) : ∀ (k i : Nat), i + d = n → d < k → laws_heldByteS.l0 k (mks a n) (a + i) (i : Int) = some (a + n) := by
  induction d with
  | zero =>
    intro k i hi hk
    obtain ⟨k, rfl⟩ : ∃ m, k = m + 1 := ⟨k - 1, by omega⟩
    simp only [laws_heldByteS.l0]
    rw [if_neg (by rw [mks_len]; omega)]
    congr 1
    omega
  | succ d ih =>
    intro k i hi hk
    obtain ⟨k, rfl⟩ : ∃ m, k = m + 1 := ⟨k - 1, by omega⟩
    simp only [laws_heldByteS.l0]
    have hr : rd (mks a n) (i : Int) = (a + i) % 256 := by
      unfold rd
      rw [Int.toNat_natCast, List.getD_eq_getElem?_getD, mks_at a n i (by omega)]
      rfl
    rw [if_pos (by rw [mks_len]; omega), if_pos (by omega), if_pos hr, wr64 (a := (i : Int) + 1) (by omega), wr64 (by omega), show a + (i : Int) + 1 = a + ((i + 1 : Nat) : Int) from by omega, show (i : Int) + 1 = ((i + 1 : Nat) : Int) from by omega]
    exact ih k (i + 1) (by omega) (by omega)
theorem heldB_f {n : Nat} {a : Int} (ha : 0 ≤ a ∧ a ≤ 1099511627776) (hn : n ≤ 1099511627776) {k : Nat} (hk : n < k) : laws_heldByteS.f k (mks a n) a = some (a + n) := by
  unfold laws_heldByteS.f
  have := heldB_l n a ha hn n k 0 (by omega) hk
  simpa using this

/-! ### eqpacket -/
theorem eqP_same (tos id : Int) (df mf : Bool) (off ttl proto src dst : Int) (o p : List Int) {k : Nat} (h : o.length + p.length ≤ 4194304) (hk : o.length + p.length < k) : laws_eqPacket.f k tos id df mf off ttl proto src dst o p tos id df mf off ttl proto src dst o p = some true := by
  unfold laws_eqPacket.f
  rw [eqB_f (by omega) (by omega), eqB_f (by omega) (by omega)]
  simp

/-! ### heldpacket -/
theorem markP_f (tos id : Int) (df mf : Bool) (off ttl proto src dst : Int) (o p : List Int) {k : Nat} (h : o.length + p.length ≤ 4194304) (hk : o.length + p.length < k) : laws_markPacket.f k tos id df mf off ttl proto src dst o p 1 = some ((1 : Int) + o.length + p.length, mks 1 o.length, mks (1 + o.length) p.length) := by
  unfold laws_markPacket.f
  rw [markB_f (by omega) (by omega) (by omega)]
  simp only [Option.bind_some]
  rw [markB_f (by omega) (by omega) (by omega)]
  rfl
theorem heldP_f (tos id : Int) (df mf : Bool) (off ttl proto src dst : Int) (n m : Nat) {k : Nat} (h : n + m ≤ 4194304) (hk : n + m < k) : laws_heldPacket.f k tos id df mf off ttl proto src dst (mks 1 n) (mks (1 + n) m) 1 = some ((1 : Int) + n + m) := by
  unfold laws_heldPacket.f
  rw [heldB_f (by omega) (by omega) (by omega)]
  simp only [Option.bind_some]
  rw [if_neg (by omega), heldB_f (by omega) (by omega) (by omega)]
  simp only [Option.bind_some]
  rw [if_neg (by omega)]

/-! ### readhead -/
theorem and15 {x : Int} (h : 0 ≤ x ∧ x ≤ 255) : Go.bits .and .u8 x 15 = x % 16 := by
  have key : ∀ n : Fin 256, Go.bits .and .u8 (n.val : Int) 15 = (n.val : Int) % 16 := by decide +kernel
  have e := key ⟨x.toNat, by omega⟩
  simp only [Int.toNat_of_nonneg h.1] at e
  exact e
/-- What the look at a packet's head tells: its length, the code. -/
def rhead (l : List Int) : Int × Int := if (l.length : Int) < 20 then (0, 2) else if rd l 0 / 16 = 4 then (if rd l 0 % 16 * 4 < 20 ∨ rd l 0 % 16 * 4 > (l.length : Int) then (0, 5) else if csum (l.take (rd l 0 % 16 * 4).toNat) = 0 then (rd l 0 % 16 * 4, 0) else (0, 3)) else (0, 4)
theorem rhead_short {l : List Int} (h : (l.length : Int) < 20) : rhead l = (0, 2) := by unfold rhead; rw [if_pos h]
theorem rhead_four {l : List Int} (h : ¬ (l.length : Int) < 20) (h4 : ¬ rd l 0 / 16 = 4) : rhead l = (0, 4) := by unfold rhead; rw [if_neg h, if_neg h4]
theorem rhead_at {l : List Int} (h : ¬ (l.length : Int) < 20) (h4 : rd l 0 / 16 = 4) {n : Nat} (hn : (n : Int) = rd l 0 % 16 * 4) : rhead l = if (n : Int) < 20 ∨ (n : Int) > (l.length : Int) then (0, 5) else if csum (l.take n) = 0 then ((n : Int), 0) else (0, 3) := by
  unfold rhead
  rw [if_neg h, if_pos h4, ← hn, Int.toNat_natCast]
theorem rhead_ok {l : List Int} (h : (rhead l).2 = 0) : ∃ n : Nat, (rhead l).1 = (n : Int) ∧ 20 ≤ n ∧ n ≤ l.length := by
  unfold rhead at h ⊢
  split at h
  · exact absurd h (by decide)
  · rename_i h0
    rw [if_neg h0]
    split at h
    · rename_i h4
      rw [if_pos h4]
      split at h
      · exact absurd h (by decide)
      · rename_i hb
        rw [if_neg hb]
        split at h
        · rename_i hc
          rw [if_pos hc]
          exact ⟨(rd l 0 % 16 * 4).toNat, by show rd l 0 % 16 * 4 = _; omega, by omega, by omega⟩
        · exact absurd h (by decide)
    · exact absurd h (by decide)
theorem srhead_f {l : List Int} (hb : Bs l) (hl : l.length ≤ 1048576) {k : Nat} (hk : l.length + 100 ≤ k) : spec_l05ReadHead.f k l = some (rhead l) := by
  obtain ⟨k, rfl⟩ : ∃ m, k = m + 1 := ⟨k - 1, by omega⟩
  unfold spec_l05ReadHead.f
  by_cases h0 : (l.length : Int) < 20
  · rw [if_pos h0, rhead_short h0]
  · have c0 : 0 < l.length := by omega
    have b0 := hb.get c0
    have r0 := rd_at (xs := l) (i := 0) c0
    rw [show ((0 : Nat) : Int) = 0 from rfl] at r0
    rw [if_neg h0, if_pos (by omega)]
    by_cases h4 : rd l 0 / 16 = 4
    · obtain ⟨n, hn⟩ : ∃ n : Nat, (n : Int) = rd l 0 % 16 * 4 := ⟨(rd l 0 % 16 * 4).toNat, by rw [r0]; omega⟩
      have hw : wrap64 (wrap64 (Go.bits .and .u8 (rd l 0) 15) * 4) = (n : Int) := by
        rw [and15 (by rw [r0]; exact b0), wr64 (a := rd l 0 % 16) (by omega), wr64 (by omega), hn]
      rw [if_pos h4, hw, rhead_at h0 h4 hn]
      by_cases h20 : (n : Int) < 20
      · rw [if_pos h20, if_pos (Or.inl h20), spec_l05ReadHead.j0, if_pos rfl]
      · rw [if_neg h20]
        by_cases hbig : (n : Int) > (l.length : Int)
        · rw [if_pos (Or.inr hbig), decide_eq_true hbig, spec_l05ReadHead.j0, if_pos rfl]
        · have hlt : (l.take n).length ≤ l.length := by rw [List.length_take]; omega
          rw [if_neg (by omega), decide_eq_false hbig, spec_l05ReadHead.j0, if_neg (by simp), if_pos (by omega), if_pos (by omega), Int.toNat_natCast, scheck_f (hb.take n) (by omega) (by omega)]
          simp only [Option.bind_some]
          by_cases hc : csum (l.take n) = 0
          · rw [if_pos hc, if_pos hc]
          · rw [if_neg hc, if_neg hc]
    · rw [if_neg h4, rhead_four h0 h4]

/-! ### dz -/
abbrev DR := Int × Int × Bool × Bool × Int × Int × Int × Int × Int × List Int × List Int × Int
def dz (c : Int) : DR := (0, 0, false, false, 0, 0, 0, 0, 0, [], [], c)

/-! ### decip -/
def dbody (l : List Int) (n a : Nat) (f : Int) : DR := if f / 32768 = 1 ∨ f % 8192 * 8 + (((l.take a).drop n).length : Int) > 65535 then dz 1 else (rd l 1, numa 0 ((l.take 6).drop 4), decide (f / 16384 % 2 = 1), decide (f / 8192 % 2 = 1), f % 8192 * 8, rd l 8, rd l 9, numa 0 ((l.take 16).drop 12), numa 0 ((l.take 20).drop 16), (l.take n).drop 20, (l.take a).drop n, 0)
theorem and_bit {x : Int} (h : 0 ≤ x ∧ x ≤ 65535) (i : Nat) (hi : i ≤ 15) : Go.bits .and .i64 x (2 ^ i) = x / 2 ^ i % 2 * 2 ^ i := by
  obtain ⟨b, rfl⟩ := Int.eq_ofNat_of_zero_le h.1
  have hl : 2 ^ i ≤ 2 ^ 15 := Nat.pow_le_pow_right (by decide) hi
  have hc : ((2 : Int) ^ i) = ((2 ^ i : Nat) : Int) := by simp
  have hk : b &&& 2 ^ i = (b.testBit i).toNat * 2 ^ i := by
    apply Nat.eq_of_testBit_eq
    intro j
    rw [Nat.testBit_and, Nat.testBit_two_pow]
    by_cases e : i = j
    · subst e
      cases hh : b.testBit i <;> simp [Nat.testBit_two_pow]
    · cases hh : b.testBit i <;> simp [Nat.testBit_two_pow, e]
  rw [hc, (bits_nat .i64 63 (by decide) wraps_i64 b _ (by omega) (by omega)).1, hk, Nat.testBit_eq_decide_div_mod_eq]
  by_cases e : b / 2 ^ i % 2 = 1
  · rw [decide_eq_true e]
    have e2 : ((b : Int) / ((2 ^ i : Nat) : Int)) % 2 = 1 := by
      rw [← Int.natCast_ediv, show (2 : Int) = ((2 : Nat) : Int) from rfl, ← Int.natCast_emod, e]
      rfl
    rw [e2]
    simp
  · rw [decide_eq_false e]
    have e2 : ((b : Int) / ((2 ^ i : Nat) : Int)) % 2 = 0 := by
      rw [← Int.natCast_ediv, show (2 : Int) = ((2 : Nat) : Int) from rfl, ← Int.natCast_emod, show b / 2 ^ i % 2 = 0 by omega]
      rfl
    rw [e2]
    simp
theorem rdb {l : List Int} (hb : Bs l) {i : Nat} (h : i < l.length) : wrap64 (rd l (i : Int)) = rd l (i : Int) := by
  have := hb.get h
  rw [rd_at h, wr64 (by omega)]
theorem num2_bd {l : List Int} (hb : Bs l) (i j : Nat) (h : j ≤ l.length) (hj : j = i + 2) : 0 ≤ numa 0 ((l.take j).drop i) ∧ numa 0 ((l.take j).drop i) ≤ 65535 := by
  have := numa_bd ((l.take j).drop i) 0 0 ((hb.take j).drop i) (by omega) (by decide)
  rw [show 8 * (0 + ((l.take j).drop i).length) = 16 from by simp only [List.length_drop, List.length_take]; omega] at this
  omega
theorem scut {l : List Int} (hb : Bs l) (i j : Nat) {k : Nat} (h : j - i ≤ 6) (hk : 10 ≤ k) : spec_l03Num.f k ((l.take j).drop i) = some (numa 0 ((l.take j).drop i)) := snum_f ((hb.take j).drop i) (by simp only [List.length_drop, List.length_take]; omega) (by simp only [List.length_drop, List.length_take]; omega)
theorem icut {l : List Int} (hb : Bs l) (i j : Nat) {k : Nat} (h : j - i ≤ 6) (hk : 10 ≤ k) : impl_get.f k ((l.take j).drop i) = some (numa 0 ((l.take j).drop i)) := iget_f ((hb.take j).drop i) (by simp only [List.length_drop, List.length_take]; omega) (by simp only [List.length_drop, List.length_take]; omega)
theorem sdec_j {l : List Int} (hb : Bs l) (hl : l.length ≤ 1048576) {n a : Nat} (h1 : 20 ≤ n) (h2 : n ≤ a) (h3 : a ≤ l.length) {k : Nat} (hk : l.length + 100 ≤ k) : spec_DecodeIP.j0 (k + 1) l (n : Int) (a : Int) false = some (dbody l n a (numa 0 ((l.take 8).drop 6))) := by
  have bf := num2_bd hb 6 8 (by omega) rfl
  have f1 := and_bit bf 14 (by omega)
  have f2 := and_bit bf 13 (by omega)
  have f3 := and_bit bf 15 (by omega)
  rw [show (2 : Int) ^ 14 = 16384 from rfl] at f1
  rw [show (2 : Int) ^ 13 = 8192 from rfl] at f2
  rw [show (2 : Int) ^ 15 = 32768 from rfl] at f3
  rw [spec_DecodeIP.j0, if_neg (by simp), if_pos (by decide), if_pos (by omega), scut hb 6 8 (by omega) (by omega)]
  simp only [Option.bind_some]
  have r1 := rdb hb (i := 1) (by omega)
  have r8 := rdb hb (i := 8) (by omega)
  have r9 := rdb hb (i := 9) (by omega)
  simp only [Int.ofNat_eq_natCast, Int.cast_ofNat_Int] at r1 r8 r9
  rw [if_pos (by omega), if_pos (by decide), if_pos (by omega), scut hb 4 6 (by omega) (by omega)]
  simp only [Option.bind_some]
  rw [if_pos (by omega), if_pos (by omega), if_pos (by decide), if_pos (by omega), scut hb 12 16 (by omega) (by omega)]
  simp only [Option.bind_some]
  rw [if_pos (by decide), if_pos (by omega), scut hb 16 20 (by omega) (by omega)]
  simp only [Option.bind_some]
  rw [if_pos (by omega), if_pos (by omega), Int.toNat_natCast, Int.toNat_natCast, copy_f (by simp only [List.length_drop, List.length_take]; omega) (by simp only [List.length_drop, List.length_take]; omega)]
  simp only [Option.bind_some]
  rw [if_pos (by omega), if_pos (by omega), if_pos (by omega), copy_f (by simp only [List.length_drop, List.length_take]; omega) (by simp only [List.length_drop, List.length_take]; omega)]
  simp only [Option.bind_some]
  have hp : ((l.take a).drop n).length ≤ 1048576 := by simp only [List.length_drop, List.length_take]; omega
  rw [r1, r8, r9, f1, f2, f3, tm_pos _ bf.1]
  unfold dbody
  generalize numa 0 ((l.take 8).drop 6) = f at bf ⊢
  generalize (l.take a).drop n = p at hp ⊢
  rw [wr64 (a := f % 8192 * 8) (by omega), wr64 (by omega)]
  by_cases c1 : f / 32768 = 1
  · rw [if_neg (by omega), if_pos (Or.inl c1)]
    rfl
  · rw [if_pos (by omega)]
    by_cases c2 : f % 8192 * 8 + (p.length : Int) > 65535
    · rw [if_pos c2, if_pos (Or.inr c2)]
      rfl
    · rw [if_neg c2, if_neg (by omega)]
      have g1 : (f / 16384 % 2 * 16384 != 0) = decide (f / 16384 % 2 = 1) := by rw [Bool.eq_iff_iff]; simp; omega
      have g2 : (f / 8192 % 2 * 8192 != 0) = decide (f / 8192 % 2 = 1) := by rw [Bool.eq_iff_iff]; simp; omega
      rw [g1, g2]
theorem idec_j {l : List Int} (hb : Bs l) (hl : l.length ≤ 1048576) {n a : Nat} (h1 : 20 ≤ n) (h2 : n ≤ a) (h3 : a ≤ l.length) {k : Nat} (hk : l.length + 100 ≤ k) : impl_DecodeIP.j1 (k + 1) l (n : Int) (a : Int) false 0 0 false false 0 0 0 0 0 = some (dbody l n a (numa 0 ((l.take 8).drop 6))) := by
  have bf := num2_bd hb 6 8 (by omega) rfl
  have r1 := rdb hb (i := 1) (by omega)
  have r8 := rdb hb (i := 8) (by omega)
  have r9 := rdb hb (i := 9) (by omega)
  simp only [Int.ofNat_eq_natCast, Int.cast_ofNat_Int] at r1 r8 r9
  rw [impl_DecodeIP.j1, if_neg (by simp), if_pos (by decide), if_pos (by omega), icut hb 6 8 (by omega) (by omega)]
  simp only [Option.bind_some]
  rw [if_pos (by omega), if_pos (by decide), if_pos (by omega), icut hb 4 6 (by omega) (by omega)]
  simp only [Option.bind_some]
  rw [if_pos (by omega), if_pos (by omega), if_pos (by decide), if_pos (by omega), icut hb 12 16 (by omega) (by omega)]
  simp only [Option.bind_some]
  rw [if_pos (by decide), if_pos (by omega), icut hb 16 20 (by omega) (by omega)]
  simp only [Option.bind_some]
  rw [if_pos (by omega), if_pos (by omega), Int.toNat_natCast, Int.toNat_natCast, dup_f (by simp only [List.length_drop, List.length_take]; omega)]
  simp only [Option.bind_some]
  rw [if_pos (by omega), if_pos (by omega), if_pos (by omega), dup_f (by simp only [List.length_drop, List.length_take]; omega)]
  simp only [Option.bind_some]
  have hp : ((l.take a).drop n).length ≤ 1048576 := by simp only [List.length_drop, List.length_take]; omega
  have f1 := and_low 13 (by decide) (numa 0 ((l.take 8).drop 6))
  have f2 := fun x => and_low 1 (by decide) x
  rw [show (2 : Int) ^ 13 - 1 = 8191 from rfl, show (2 : Int) ^ 13 = 8192 from rfl] at f1
  simp only [show (2 : Int) ^ 1 = 2 from rfl, show (2 : Int) - 1 = 1 from rfl] at f2
  rw [r1, r8, r9, f1, f2, f2]
  unfold dbody
  generalize numa 0 ((l.take 8).drop 6) = f at bf ⊢
  generalize (l.take a).drop n = p at hp ⊢
  rw [wr64 (a := f % 8192 * 8) (by omega), wr64 (by omega)]
  by_cases c1 : f / 32768 = 1
  · rw [if_pos c1, if_pos (Or.inl c1)]
    rfl
  · rw [if_neg c1]
    by_cases c2 : f % 8192 * 8 + (p.length : Int) > 65535
    · rw [if_pos c2, if_pos (Or.inr c2)]
      rfl
    · rw [if_neg c2, if_neg (by omega), beq_dec, beq_dec]
def dres (l : List Int) : DR := if (rhead l).2 = 0 then (let n := (rhead l).1; let a := numa 0 ((l.take 4).drop 2); if a < n ∨ a > (l.length : Int) then dz 5 else dbody l n.toNat a.toNat (numa 0 ((l.take 8).drop 6))) else dz (rhead l).2
theorem dbody_len (l : List Int) (n a : Nat) (f : Int) : (dbody l n a f).2.2.2.2.2.2.2.2.2.1.length + (dbody l n a f).2.2.2.2.2.2.2.2.2.2.1.length ≤ 2 * l.length := by
  unfold dbody dz
  split
  · simp
  · simp only [List.length_drop, List.length_take]
    omega
theorem dres_len (l : List Int) : (dres l).2.2.2.2.2.2.2.2.2.1.length + (dres l).2.2.2.2.2.2.2.2.2.2.1.length ≤ 2 * l.length := by
  unfold dres
  split
  · simp only
    split
    · simp [dz]
    · exact dbody_len ..
  · simp [dz]
theorem sdecip_f {l : List Int} (hb : Bs l) (hl : l.length ≤ 1048576) {k : Nat} (hk : l.length + 200 ≤ k) : spec_DecodeIP.f k l = some (dres l) := by
  obtain ⟨k, rfl⟩ : ∃ m, k = m + 1 := ⟨k - 1, by omega⟩
  unfold spec_DecodeIP.f dres
  rw [srhead_f hb hl (by omega)]
  simp only [Option.bind_some]
  by_cases c : (rhead l).2 = 0
  · obtain ⟨n, hn, h20, hnl⟩ := rhead_ok c
    rw [if_pos c, if_pos c, if_pos (by decide), if_pos (by omega), scut hb 2 4 (by omega) (by omega)]
    simp only [Option.bind_some, hn]
    have ba := num2_bd hb 2 4 (by omega) rfl
    obtain ⟨a, ha⟩ : ∃ a : Nat, numa 0 ((l.take 4).drop 2) = (a : Int) := ⟨_, (Int.toNat_of_nonneg ba.1).symm⟩
    rw [ha]
    by_cases c1 : (a : Int) < (n : Int)
    · rw [if_pos c1, if_pos (Or.inl c1), spec_DecodeIP.j0, if_pos rfl]
      rfl
    · rw [if_neg c1]
      by_cases c2 : (a : Int) > (l.length : Int)
      · rw [if_pos (Or.inr c2), decide_eq_true c2, spec_DecodeIP.j0, if_pos rfl]
        rfl
      · rw [if_neg (by omega), decide_eq_false c2, sdec_j hb hl h20 (by omega) (by omega) (by omega), Int.toNat_natCast, Int.toNat_natCast]
  · rw [if_neg c, if_neg c]
    rfl
theorem idecip_f {l : List Int} (hb : Bs l) (hl : l.length ≤ 1048576) {k : Nat} (hk : l.length + 200 ≤ k) : impl_DecodeIP.f k l = some (dres l) := by
  obtain ⟨k, rfl⟩ : ∃ m, k = m + 2 := ⟨k - 2, by omega⟩
  unfold impl_DecodeIP.f dres
  by_cases h0 : (l.length : Int) < 20
  · rw [if_pos h0, rhead_short h0]
    rfl
  · have c0 : 0 < l.length := by omega
    have b0 := hb.get c0
    have r0 := rd_at (xs := l) (i := 0) c0
    rw [show ((0 : Nat) : Int) = 0 from rfl] at r0
    rw [if_neg h0, if_pos (by omega)]
    by_cases h4 : rd l 0 / 16 = 4
    · obtain ⟨n, hn⟩ : ∃ n : Nat, (n : Int) = rd l 0 % 16 * 4 := ⟨(rd l 0 % 16 * 4).toNat, by rw [r0]; omega⟩
      have hw : wrap64 (wrap64 (Go.bits .and .u8 (rd l 0) 15) * 4) = (n : Int) := by
        rw [and15 (by rw [r0]; exact b0), wr64 (a := rd l 0 % 16) (by omega), wr64 (by omega), hn]
      have hr := rhead_at h0 h4 hn
      rw [if_pos h4, hw]
      by_cases h20 : (n : Int) < 20
      · rw [if_pos (Or.inl h20)] at hr
        rw [hr, if_pos h20, impl_DecodeIP.j0, if_pos rfl]
        rfl
      · rw [if_neg h20]
        by_cases hbig : (n : Int) > (l.length : Int)
        · rw [if_pos (Or.inr hbig)] at hr
          rw [hr, decide_eq_true hbig, impl_DecodeIP.j0, if_pos rfl]
          rfl
        · have hlt : (l.take n).length ≤ l.length := by rw [List.length_take]; omega
          rw [if_neg (by omega)] at hr
          rw [decide_eq_false hbig, impl_DecodeIP.j0, if_neg (show ¬ (false = true) by simp), if_pos (show (0 : Int) ≤ (n : Int) by omega), if_pos (show (n : Int) ≤ (l.length : Int) by omega), Int.toNat_natCast, icheck_f (hb.take n) (by omega) (by omega)]
          simp only [Option.bind_some]
          by_cases hc : csum (l.take n) = 0
          · rw [if_pos hc] at hr
            rw [hr, if_pos hc, if_pos (show (2 : Nat) ≤ 4 by decide), if_pos (show (4 : Int) ≤ (l.length : Int) by omega), icut hb 2 4 (by omega) (by omega)]
            simp only [Option.bind_some, if_true]
            have ba := num2_bd hb 2 4 (by omega) rfl
            obtain ⟨a, ha⟩ : ∃ a : Nat, numa 0 ((l.take 4).drop 2) = (a : Int) := ⟨_, (Int.toNat_of_nonneg ba.1).symm⟩
            rw [ha]
            by_cases c1 : (a : Int) < (n : Int)
            · rw [if_pos c1, if_pos (Or.inl c1), impl_DecodeIP.j1, if_pos rfl]
              rfl
            · rw [if_neg c1]
              by_cases c2 : (a : Int) > (l.length : Int)
              · rw [if_pos (Or.inr c2), decide_eq_true c2, impl_DecodeIP.j1, if_pos rfl]
                rfl
              · rw [if_neg (show ¬ ((a : Int) < (n : Int) ∨ (a : Int) > (l.length : Int)) by omega), decide_eq_false c2, idec_j hb hl (by omega) (by omega) (by omega) (by omega), Int.toNat_natCast, Int.toNat_natCast]
          · rw [if_neg hc] at hr
            rw [hr, if_neg hc, if_neg (show ¬ ((3 : Int) = 0) by decide)]
            rfl
    · rw [if_neg h4, rhead_four h0 h4]
      rfl
theorem decip_same {l : List Int} (hb : Bs l) (hl : l.length ≤ 1048576) : ∃ R : DR, (∀ k, l.length + 200 ≤ k → spec_DecodeIP.f k l = some R) ∧ (∀ k, l.length + 200 ≤ k → impl_DecodeIP.f k l = some R) ∧ R.2.2.2.2.2.2.2.2.2.1.length + R.2.2.2.2.2.2.2.2.2.2.1.length ≤ 2 * l.length :=
  ⟨dres l, fun _ h => sdecip_f hb hl h, fun _ h => idecip_f hb hl h, dres_len l⟩

/-! ### the law -/
theorem FnExactDecodeIP : laws_FnExactDecodeIP.Pure := by
  intro l _ _ hw
  have hb := Bs.of hw
  by_cases h : (l.length : Int) > 1048576
  · refine ⟨1, ?_⟩
    unfold laws_FnExactDecodeIP.f
    rw [if_pos h]
  · have hn : l.length ≤ 1048576 := by omega
    obtain ⟨R, hs, hi, hlen⟩ := decip_same hb hn
    obtain ⟨tos, id, df, mf, off, ttl, proto, src, dst, o, p, c⟩ := R
    have hlen : o.length + p.length ≤ 2 * l.length := hlen
    obtain ⟨k, hk⟩ : ∃ k, k = l.length + o.length + p.length + 300 := ⟨_, rfl⟩
    refine ⟨k + 3, ?_⟩
    unfold laws_FnExactDecodeIP.f
    rw [if_neg h, toB_f (by omega) (by omega)]
    simp only [Option.bind_some]
    rw [hs _ (by omega), hi _ (by omega)]
    simp only [Option.bind_some]
    rw [eqP_same _ _ _ _ _ _ _ _ _ _ _ (by omega) (by omega)]
    simp only [Option.bind_some, if_true, bne_self_eq_false]
    rw [laws_FnExactDecodeIP.j0, if_neg (by simp), toB_f (by omega) (by omega)]
    simp only [Option.bind_some]
    rw [eqB_f (by omega) (by omega)]
    simp only [Option.bind_some, decide_true, if_true]
    rw [markB_f (by omega) (by omega) (by omega)]
    simp only [Option.bind_some]
    rw [if_neg (show ¬ ((1 : Int) + (l.length : Int) < 0) by omega), eqP_same _ _ _ _ _ _ _ _ _ _ _ (by omega) (by omega)]
    simp only [Option.bind_some, if_true, bne_self_eq_false]
    rw [laws_FnExactDecodeIP.j1, if_neg (by simp), markP_f _ _ _ _ _ _ _ _ _ _ _ (by omega) (by omega)]
    simp only [Option.bind_some]
    rw [heldP_f _ _ _ _ _ _ _ _ _ _ _ (by omega) (by omega)]
    simp only [Option.bind_some]
    rw [if_neg (show ¬ ((1 : Int) + (o.length : Int) + (p.length : Int) < 0) by omega), if_pos (by trivial), toB_f (by omega) (by omega)]
    simp only [Option.bind_some]
    rw [hi _ (by omega)]
    simp only [Option.bind_some]
    rw [eqP_same _ _ _ _ _ _ _ _ _ _ _ (by omega) (by omega)]
    simp only [Option.bind_some, if_true, bne_self_eq_false]
    rw [laws_FnExactDecodeIP.j2, if_neg (by simp), heldP_f _ _ _ _ _ _ _ _ _ _ _ (by omega) (by omega)]
    simp only [Option.bind_some]
    rw [if_neg (show ¬ ((1 : Int) + (o.length : Int) + (p.length : Int) < 0) by omega), if_pos (by trivial)]

end Go.Proofs.Ytkfbcmbemihbnaa.Pure
