/- DecodeArp of the program returns what DecodeArp of the reference returns, for all arguments, and leaves its argument as it was; without conditions. -/
import Derived.Test.YtdigkdoihfpdgaaPFnExactDecodeArpx5
import Derived.Lib.Bytes
set_option linter.unusedVariables false
set_option linter.unusedSimpArgs false
namespace Go.Proofs.Ytdigkdoihfpdgaa.Pure
open Go.RowKit Go.Proofs.Ytdigkdoihfpdgaa.PFnExactDecodeArp Go.Proofs.YtdigkdoihfpdgaaW.PrintWords Go.Proofs.YtdigkdoihfpdgaaW.PrintLast

/-! ### base -/
theorem wf64 {a : Int} (h : (Lit.int .i64 a).wf = true) : -9223372036854775808 ≤ a ∧ a ≤ 9223372036854775807 := by
  have h1 : IntKind.i64.min = -9223372036854775808 := by decide
  have h2 : IntKind.i64.max = 9223372036854775807 := by decide
  simp only [Lit.wf, Bool.and_eq_true, decide_eq_true_eq] at h
  omega
theorem tm_pos {a : Int} (n : Int) (h : 0 ≤ a) : Int.tmod a n = a % n := Int.tmod_eq_emod_of_nonneg h
theorem tm_neg {a : Int} (n : Int) (h : a ≤ 0) : Int.tmod a n = -((-a) % n) := by
  have := Int.neg_tmod (-a) n
  rw [Int.neg_neg] at this
  rw [this, Int.tmod_eq_emod_of_nonneg (by omega)]
theorem td_pos {a : Int} (n : Int) (h : 0 ≤ a) : Int.tdiv a n = a / n := Int.tdiv_eq_ediv_of_nonneg h
theorem wr64 {a : Int} (h : -9223372036854775808 ≤ a ∧ a ≤ 9223372036854775807) : wrap64 a = a := by
  unfold wrap64
  omega
theorem dec_eq {p : Prop} [Decidable p] {b : Bool} (h : b = true ↔ p) : some b = some (decide p) := by
  rw [Option.some.injEq, Bool.eq_iff_iff, decide_eq_true_eq]
  exact h
theorem ite_dec (p q : Prop) [Decidable p] [Decidable q] : (if p then some (decide q) else some false) = some (decide (p ∧ q)) := by
  by_cases h : p <;> simp [h]
theorem beq_dec (a b : Int) : (a == b) = decide (a = b) := by
  rw [Bool.eq_iff_iff]
  simp

/-! ### bits -/
theorem wraps_i64 (n : Int) (h₀ : 0 ≤ n) (h₁ : n < 2 ^ 63) : IntKind.i64.wrap n = n := by rw [IntKind.wrap_i64]; omega
/-- The low bits of any whole number. -/
theorem and_low (i : Nat) (hi : i ≤ 62) (x : Int) : Go.bits .and .i64 x (2 ^ i - 1) = x % 2 ^ i := by
  have hpos : 0 < 2 ^ i := Nat.two_pow_pos i
  have h62 : 2 ^ i ≤ 2 ^ 62 := Nat.pow_le_pow_right (by decide) hi
  have hc : ((2 : Int) ^ i - 1) = ((2 ^ i - 1 : Nat) : Int) := by
    rw [Int.natCast_sub hpos]; simp
  have hx0 : 0 ≤ x % 18446744073709551616 := Int.emod_nonneg _ (by decide)
  have hx : (BitVec.ofInt 64 x).toNat = (x % 18446744073709551616).toNat := by rw [BitVec.toNat_ofInt]; rfl
  have hd : ((2 : Int) ^ i) ∣ 18446744073709551616 := by
    rw [show (18446744073709551616 : Int) = 2 ^ 64 from rfl]
    exact ⟨2 ^ (64 - i), by rw [← Int.pow_add, show i + (64 - i) = 64 from by omega]⟩
  have h2 : ((x % 18446744073709551616).toNat % 2 ^ i : Nat) = (x % 2 ^ i).toNat := by
    apply Int.ofNat.inj
    have e1 : (((x % 18446744073709551616).toNat % 2 ^ i : Nat) : Int) = x % 2 ^ i := by
      rw [Int.natCast_emod, Int.toNat_of_nonneg hx0, Int.natCast_pow]
      exact Int.emod_emod_of_dvd _ hd
    have e2 : 0 ≤ x % 2 ^ i := Int.emod_nonneg _ (by have : (0 : Int) < 2 ^ i := Int.pow_pos (by decide); omega)
    exact e1.trans (Int.toNat_of_nonneg e2).symm
  have e2 : 0 ≤ x % 2 ^ i := Int.emod_nonneg _ (by have : (0 : Int) < 2 ^ i := Int.pow_pos (by decide); omega)
  have e3 : x % 2 ^ i < 2 ^ i := Int.emod_lt_of_pos _ (Int.pow_pos (by decide))
  have e4 : (2 : Int) ^ i ≤ 2 ^ 62 := by exact_mod_cast h62
  have key : Go.bits .and .i64 x (2 ^ i - 1) = IntKind.i64.wrap (((BitVec.ofInt 64 x).toNat &&& (BitVec.ofInt 64 ((2 ^ i - 1 : Nat) : Int)).toNat : Nat) : Int) := by
    rw [hc]
    show IntKind.i64.wrap ((BitVec.ofInt 64 x &&& BitVec.ofInt 64 ((2 ^ i - 1 : Nat) : Int)).toNat : Int) = _
    rw [BitVec.toNat_and]
  rw [key, hx]
  have hm : (BitVec.ofInt 64 ((2 ^ i - 1 : Nat) : Int)).toNat = 2 ^ i - 1 := by
    rw [BitVec.ofInt_natCast, BitVec.toNat_ofNat]
    exact Nat.mod_eq_of_lt (by omega)
  rw [hm, Nat.and_two_pow_sub_one_eq_mod, h2, Int.toNat_of_nonneg e2]
  exact wraps_i64 _ e2 (by omega)
theorem and_65535 (x : Int) : Go.bits .and .i64 x 65535 = x % 65536 := and_low 16 (by decide) x
theorem and_255 (x : Int) : Go.bits .and .i64 x 255 = x % 256 := and_low 8 (by decide) x
theorem nat_and_high (a n : Nat) (ha : a < 2 ^ 32) (hn : n ≤ 32) : a &&& ((2 ^ (32 - n) - 1) * 2 ^ n) = a / 2 ^ n * 2 ^ n := by
  apply Nat.eq_of_testBit_eq
  intro i
  rw [Nat.testBit_and, Nat.testBit_mul_two_pow, Nat.testBit_mul_two_pow, Nat.testBit_div_two_pow, Nat.testBit_two_pow_sub_one]
  by_cases h : n ≤ i
  · simp only [h, decide_true, Bool.true_and]
    rw [show i - n + n = i from by omega]
    by_cases h3 : i - n < 32 - n
    · simp [h3]
    · have : a.testBit i = false := Nat.testBit_lt_two_pow (Nat.lt_of_lt_of_le ha (Nat.pow_le_pow_right (by decide) (by omega)))
      simp [this]
  · simp [h]
theorem and_high (a : Int) (n : Nat) (h0 : 0 ≤ a) (h1 : a ≤ 4294967295) (hn : n ≤ 32) : Go.bits .and .i64 a ((2 ^ (32 - n) - 1) * 2 ^ n) = a / 2 ^ n * 2 ^ n := by
  obtain ⟨b, rfl⟩ := Int.eq_ofNat_of_zero_le h0
  have hc : (((2 : Int) ^ (32 - n) - 1) * 2 ^ n) = (((2 ^ (32 - n) - 1) * 2 ^ n : Nat) : Int) := by
    rw [Int.natCast_mul, Int.natCast_sub (Nat.two_pow_pos _)]; simp
  have hl : (2 ^ (32 - n) - 1) * 2 ^ n ≤ 4294967295 := by
    rw [Nat.sub_mul, ← Nat.pow_add, show 32 - n + n = 32 from by omega]
    have := Nat.two_pow_pos n
    omega
  rw [hc, (bits_nat .i64 63 (by decide) wraps_i64 b _ (by omega) (by omega)).1, nat_and_high b n (by omega) hn]
  simp

/-! ### addr0 -/
theorem in_f (a l h : Int) : spec_l01In.f a l h = some (decide (l ≤ a ∧ a ≤ h)) := by
  unfold spec_l01In.f
  by_cases h1 : a ≥ l
  · rw [if_pos h1]; congr 1; rw [decide_eq_decide]; omega
  · rw [if_neg h1]; congr 1; rw [eq_comm, decide_eq_false_iff_not]; omega

/-! ### addr -/
theorem addrOK_f (a : Int) : spec_l02AddrOK.f a = some (decide (0 ≤ a ∧ a ≤ 4294967295)) := by
  unfold spec_l02AddrOK.f
  rw [in_f]
  rfl
theorem isAddr_f (a : Int) : impl_isAddr.f a = some (decide (0 ≤ a ∧ a ≤ 4294967295)) := by
  unfold impl_isAddr.f
  by_cases h1 : a ≥ 0
  · rw [if_pos h1]; congr 1; rw [decide_eq_decide]; omega
  · rw [if_neg h1]; congr 1; rw [eq_comm, decide_eq_false_iff_not]; omega

/-! ### lists -/
theorem rd_at {xs : List Int} {i : Nat} (h : i < xs.length) : rd xs (i : Int) = xs[i] := by
  unfold rd
  rw [Int.toNat_natCast, List.getD_eq_getElem?_getD, List.getElem?_eq_getElem h]
  rfl
theorem wr_succ {i n : Nat} (h : i < n) (hn : n ≤ 281474976710656) : wrap64 ((i : Int) + 1) = ((i + 1 : Nat) : Int) := by
  rw [wr64 (by omega)]
  omega
theorem maxLen_le {n : Nat} (h : n ≤ 1048576) : n ≤ 281474976710656 := by omega

/-! ### tobytes -/
theorem toB_l (x0 : List Int) (hn : x0.length ≤ 281474976710656) (d : Nat) : ∀ (k i : Nat) (x3 : List Int), i + d = x0.length → d < k → x3.length = x0.length → (∀ j, j < i → x3[j]? = x0[j]?) → laws_toByteS.l0 k x0 x3 (i : Int) = some x0 := by
  induction d with
  | zero =>
    intro k i x3 hi hk hl he
    obtain ⟨k, rfl⟩ : ∃ m, k = m + 1 := ⟨k - 1, by omega⟩
    simp only [laws_toByteS.l0]
    rw [if_neg (by omega)]
    congr 1
    apply List.ext_getElem?
    intro j
    by_cases hj : j < i
    · exact he j hj
    · rw [List.getElem?_eq_none (by omega), List.getElem?_eq_none (by omega)]
  | succ d ih =>
    intro k i x3 hi hk hl he
    obtain ⟨k, rfl⟩ : ∃ m, k = m + 1 := ⟨k - 1, by omega⟩
    simp only [laws_toByteS.l0]
    rw [if_pos (by omega), if_pos (by omega), if_pos (by omega), wr_succ (n := x0.length) (by omega) hn]
    refine ih k (i + 1) _ (by omega) (by omega) (by simp [hl]) ?_
    intro j hj
    rw [Int.toNat_natCast]
    by_cases e : j = i
    · subst e
      rw [List.getElem?_set_self (by omega), rd_at (by omega), List.getElem?_eq_getElem (by omega)]
    · rw [List.getElem?_set_ne (by omega)]
      exact he j (by omega)
theorem toB_f {l : List Int} (hn : l.length ≤ 281474976710656) {k : Nat} (hk : l.length < k) : laws_toByteS.f k l = some l := by
  unfold laws_toByteS.f
  rw [if_pos (by omega), if_pos (by simpa using hn), Int.toNat_natCast]
  exact toB_l l hn l.length k 0 _ (by omega) hk (by simp) (fun j hj => absurd hj (by omega))

/-! ### eqbytes -/
theorem eqB_l (x0 x1 : List Int) (hn : x0.length ≤ 281474976710656) (hl : x0.length = x1.length) (d : Nat) : ∀ (k i : Nat), i + d = x0.length → d < k → (∀ j, j < i → x0[j]? = x1[j]?) → laws_eqByteS.l0 k x0 x1 (i : Int) = some (decide (x0 = x1)) := by
  induction d with
  | zero =>
    intro k i hi hk he
    obtain ⟨k, rfl⟩ : ∃ m, k = m + 1 := ⟨k - 1, by omega⟩
    simp only [laws_eqByteS.l0]
    rw [if_neg (by omega)]
    have : x0 = x1 := by
      apply List.ext_getElem?
      intro j
      by_cases hj : j < i
      · exact he j hj
      · rw [List.getElem?_eq_none (by omega), List.getElem?_eq_none (by omega)]
    simp [this]
  | succ d ih =>
    intro k i hi hk he
    obtain ⟨k, rfl⟩ : ∃ m, k = m + 1 := ⟨k - 1, by omega⟩
    simp only [laws_eqByteS.l0]
    rw [if_pos (by omega), if_pos (by omega), if_pos (by omega), wr_succ (n := x0.length) (by omega) hn, rd_at (by omega), rd_at (by omega)]
    by_cases e : x0[i] = x1[i]
    · rw [if_pos e]
      refine ih k (i + 1) (by omega) (by omega) ?_
      intro j hj
      by_cases ej : j = i
      · subst ej
        rw [List.getElem?_eq_getElem (by omega), List.getElem?_eq_getElem (by omega), e]
      · exact he j (by omega)
    · rw [if_neg e]
      have : x0 ≠ x1 := fun h => by
        subst h
        exact e rfl
      simp [this]
theorem eqB_f {l m : List Int} (hn : l.length ≤ 281474976710656) {k : Nat} (hk : l.length < k) : laws_eqByteS.f k l m = some (decide (l = m)) := by
  unfold laws_eqByteS.f
  by_cases h : l.length = m.length
  · rw [if_pos (by omega)]
    exact eqB_l l m hn h l.length k 0 (by omega) hk (fun j hj => absurd hj (by omega))
  · rw [if_neg (by omega)]
    have : l ≠ m := fun e => h (by rw [e])
    simp [this]

/-! ### wsum -/
/-- What a sum of numbers of two bytes folds to. -/
def fold (s : Int) : Int := if s = 0 then 0 else (s - 1) % 65535 + 1
theorem fold_le (s : Int) (h : 0 ≤ s) : 0 ≤ fold s ∧ fold s ≤ 65535 := by unfold fold; split <;> omega
theorem fold_low {s : Int} (h : 0 ≤ s ∧ s ≤ 65535) : fold s = s := by unfold fold; split <;> omega
theorem fold_step {s : Int} (h : s > 65535) : fold (s / 65536 + s % 65536) = fold s := by
  unfold fold
  rw [if_neg (by omega), if_neg (by omega)]
  omega
theorem fold_sub {s : Int} (h : s > 65535) : fold (s - 65535) = fold s := by
  unfold fold
  rw [if_neg (by omega), if_neg (by omega)]
  omega
/-- The sum of bytes: the one at a place with 'b' counts 256 times, and so on in turn. -/
def wsp : Bool → List Int → Int
  | _, [] => 0
  | true, a :: r => a * 256 + wsp false r
  | false, a :: r => a + wsp true r
/-- All are bytes. -/
def Bs (l : List Int) : Prop := ∀ x ∈ l, 0 ≤ x ∧ x ≤ 255
theorem Bs.get {l : List Int} (h : Bs l) {i : Nat} (hi : i < l.length) : 0 ≤ l[i] ∧ l[i] ≤ 255 := h _ (List.getElem_mem hi)
theorem Bs.of {l : List Int} (h : ∀ x ∈ l, (Lit.int .u8 x).wf = true) : Bs l := by
  intro x hx
  have hw := h x hx
  have h1 : IntKind.u8.min = 0 := by decide
  have h2 : IntKind.u8.max = 255 := by decide
  simp only [Lit.wf, Bool.and_eq_true, decide_eq_true_eq] at hw
  omega
theorem Bs.append {a b : List Int} (ha : Bs a) (hb : Bs b) : Bs (a ++ b) := by
  intro x hx
  rcases List.mem_append.1 hx with h | h
  · exact ha x h
  · exact hb x h
theorem Bs.take {l : List Int} (h : Bs l) (n : Nat) : Bs (l.take n) := fun x hx => h x (List.mem_of_mem_take hx)
theorem Bs.drop {l : List Int} (h : Bs l) (n : Nat) : Bs (l.drop n) := fun x hx => h x (List.mem_of_mem_drop hx)
theorem Bs.tail {a : Int} {l : List Int} (h : Bs (a :: l)) : Bs l := fun x hx => h x (List.mem_cons_of_mem _ hx)
theorem wsp_bd (l : List Int) : ∀ (b : Bool), Bs l → 0 ≤ wsp b l ∧ wsp b l ≤ 65280 * (l.length : Int) := by
  induction l with
  | nil => intro b _; cases b <;> simp [wsp]
  | cons a r ih =>
    intro b h
    have ha := h a (List.mem_cons_self ..)
    have h1 := ih true h.tail
    have h2 := ih false h.tail
    cases b <;> (simp only [wsp, List.length_cons]; omega)
theorem drop_cons {l : List Int} {i : Nat} (h : i < l.length) : l.drop i = l[i] :: l.drop (i + 1) := List.drop_eq_getElem_cons h
/-- The checksum of bytes. -/
def csum (l : List Int) : Int := 65535 - fold (wsp true l)
theorem csum_le {l : List Int} (h : Bs l) : 0 ≤ csum l ∧ csum l ≤ 65535 := by
  have := fold_le _ (wsp_bd l true h).1
  unfold csum
  omega

/-! ### num -/
/-- The number that bytes behind a number tell, the high one first. -/
def numa : Int → List Int → Int
  | a, [] => a
  | a, b :: r => numa (a * 256 + b) r
theorem pow_le6 {i : Nat} (h : i ≤ 6) : (2 : Int) ^ (8 * i) ≤ 281474976710656 := by
  rcases (show i = 0 ∨ i = 1 ∨ i = 2 ∨ i = 3 ∨ i = 4 ∨ i = 5 ∨ i = 6 by omega) with rfl | rfl | rfl | rfl | rfl | rfl | rfl <;> decide
theorem pow_8 (i : Nat) : (2 : Int) ^ (8 * (i + 1)) = 2 ^ (8 * i) * 256 := by
  rw [show 8 * (i + 1) = 8 * i + 8 from by omega, Int.pow_add]
  rfl
theorem numa_bd (l : List Int) : ∀ (i : Nat) (a : Int), Bs l → 0 ≤ a → a < 2 ^ (8 * i) → 0 ≤ numa a l ∧ numa a l < 2 ^ (8 * (i + l.length)) := by
  induction l with
  | nil => intro i a _ h0 h1; exact ⟨h0, h1⟩
  | cons b r ih =>
    intro i a hb h0 h1
    have hb0 := hb b (List.mem_cons_self ..)
    have e := pow_8 i
    have := ih (i + 1) (a * 256 + b) hb.tail (by omega) (by omega)
    rw [show i + 1 + r.length = i + (b :: r).length from by simp; omega] at this
    exact this

/-! ### specnum -/
theorem snum_l (l : List Int) (hb : Bs l) (hn : l.length ≤ 7) (d : Nat) : ∀ (k i : Nat) (s : Int), i + d = l.length → d < k → 0 ≤ s → s < 2 ^ (8 * i) → spec_l03Num.l0 k l s (i : Int) = some (numa s (l.drop i)) := by
  induction d with
  | zero =>
    intro k i s hi hk h0 h1
    obtain ⟨k, rfl⟩ : ∃ m, k = m + 1 := ⟨k - 1, by omega⟩
    simp only [spec_l03Num.l0]
    rw [if_neg (by omega), List.drop_eq_nil_of_le (by omega)]
    rfl
  | succ d ih =>
    intro k i s hi hk h0 h1
    obtain ⟨k, rfl⟩ : ∃ m, k = m + 1 := ⟨k - 1, by omega⟩
    have c1 : i < l.length := by omega
    have b1 := hb.get c1
    have p1 := pow_le6 (i := i) (by omega)
    have p2 := pow_8 i
    simp only [spec_l03Num.l0]
    rw [if_pos (by omega), if_pos (by omega), rd_at c1, wr64 (a := l[i]) (by omega), wr64 (a := s * 256) (by omega), wr64 (a := s * 256 + l[i]) (by omega), wr_succ c1 (by omega), ih k (i + 1) _ (by omega) (by omega) (by omega) (by omega), drop_cons c1]
    rfl
theorem snum_f {l : List Int} (hb : Bs l) (hn : l.length ≤ 7) {k : Nat} (hk : l.length < k) : spec_l03Num.f k l = some (numa 0 l) := by
  unfold spec_l03Num.f
  have := snum_l l hb hn l.length k 0 0 (by omega) hk (by omega) (by decide)
  simpa using this

/-! ### implget -/
theorem or_byte {s b : Int} (h0 : 0 ≤ s) (h1 : s < 281474976710656) (hb : 0 ≤ b ∧ b ≤ 255) : Go.bits .or .i64 (s * 256) b = s * 256 + b :=
  bits_join .i64 63 (by decide) wraps_i64 8 (s * 256) b (by omega) (by omega) (by omega) hb.1 (by omega) (by omega)
theorem iget_l (l : List Int) (hb : Bs l) (hn : l.length ≤ 7) (d : Nat) : ∀ (k i : Nat) (s : Int), i + d = l.length → d < k → 0 ≤ s → s < 2 ^ (8 * i) → impl_get.l0 k s l (l.length : Int) (i : Int) = some (numa s (l.drop i)) := by
  induction d with
  | zero =>
    intro k i s hi hk h0 h1
    obtain ⟨k, rfl⟩ : ∃ m, k = m + 1 := ⟨k - 1, by omega⟩
    simp only [impl_get.l0]
    rw [if_neg (by omega), List.drop_eq_nil_of_le (by omega)]
    rfl
  | succ d ih =>
    intro k i s hi hk h0 h1
    obtain ⟨k, rfl⟩ : ∃ m, k = m + 1 := ⟨k - 1, by omega⟩
    have c1 : i < l.length := by omega
    have b1 := hb.get c1
    have p1 := pow_le6 (i := i) (by omega)
    have p2 := pow_8 i
    simp only [impl_get.l0]
    rw [if_pos (by omega), if_pos (by omega), if_pos (by omega), rd_at c1, wr64 (a := l[i]) (by omega), wr64 (a := s * 256) (by omega), or_byte h0 (by omega) b1, wr_succ c1 (by omega), ih k (i + 1) _ (by omega) (by omega) (by omega) (by omega), drop_cons c1]
    rfl
theorem iget_f {l : List Int} (hb : Bs l) (hn : l.length ≤ 7) {k : Nat} (hk : l.length < k) : impl_get.f k l = some (numa 0 l) := by
  unfold impl_get.f
  have := iget_l l hb hn l.length k 0 0 (by omega) hk (by omega) (by decide)
  simpa using this

/-! ### arp -/
theorem macOK_f (a : Int) : spec_l02MacOK.f a = some (decide (0 ≤ a ∧ a ≤ 281474976710655)) := by
  unfold spec_l02MacOK.f
  rw [in_f]
  rfl
theorem isMac_f (a : Int) : impl_isMac.f a = some (decide (0 ≤ a ∧ a ≤ 281474976710655)) := by
  unfold impl_isMac.f
  by_cases h1 : a ≥ 0
  · rw [if_pos h1]; congr 1; rw [decide_eq_decide]; omega
  · rw [if_neg h1]; congr 1; rw [eq_comm, decide_eq_false_iff_not]; omega
def okA (o m s t u : Int) : Prop := (o = 1 ∨ o = 2) ∧ (0 ≤ m ∧ m ≤ 281474976710655) ∧ (0 ≤ s ∧ s ≤ 4294967295) ∧ (0 ≤ t ∧ t ≤ 281474976710655) ∧ (0 ≤ u ∧ u ≤ 4294967295)
instance (o m s t u : Int) : Decidable (okA o m s t u) := by unfold okA; exact inferInstance
theorem okA_spec (o m s t u : Int) : spec_l04OK.f o m s t u = some (decide (okA o m s t u)) := by
  unfold spec_l04OK.f
  simp only [macOK_f, addrOK_f, Option.bind_some]
  repeat' split
  all_goals (apply dec_eq; unfold okA; simp_all <;> omega)
theorem okA_impl (o m s t u : Int) : impl_okArp.f o m s t u = some (decide (okA o m s t u)) := by
  unfold impl_okArp.f
  simp only [isMac_f, isAddr_f, Option.bind_some]
  repeat' split
  all_goals (apply dec_eq; unfold okA; simp_all <;> omega)

/-! ### the law -/
theorem byte_inj {a b : Int} (ha : 0 ≤ a ∧ a ≤ 255) (hb : 0 ≤ b ∧ b ≤ 255) : (UInt8.ofNat a.toNat = UInt8.ofNat b.toNat) ↔ a = b := by
  constructor
  · intro h
    have h2 := congrArg UInt8.toNat h
    rw [UInt8.toNat_ofNat', UInt8.toNat_ofNat'] at h2
    omega
  · intro h
    rw [h]
theorem head_eq {t : List Int} (hb : Bs t) (hl : t.length = 6) : ((strOfNums t).toList == (strOfNums [0, 1, 8, 0, 6, 4]).toList) = decide (numa 0 t = 4429186564) := by
  match t, hl with
  | [a, b, c, d, e, f], _ =>
    have ha := hb a (by simp)
    have hb' := hb b (by simp)
    have hc := hb c (by simp)
    have hd := hb d (by simp)
    have he := hb e (by simp)
    have hf := hb f (by simp)
    rw [Go.Lib.strOfNums_toList, Go.Lib.strOfNums_toList, Bool.eq_iff_iff, beq_iff_eq, decide_eq_true_eq]
    simp only [Go.Lib.bytesOf, List.map_cons, List.map_nil, List.cons.injEq, and_true, numa]
    rw [byte_inj ha (by omega), byte_inj hb' (by omega), byte_inj hc (by omega), byte_inj hd (by omega), byte_inj he (by omega), byte_inj hf (by omega)]
    omega
theorem cut_b {l : List Int} (hb : Bs l) (i j : Nat) : Bs ((l.take j).drop i) := (hb.take j).drop i
theorem arp_same {l : List Int} (hb : Bs l) {k : Nat} (hk : 100 ≤ k) : ∃ a b c d e f, spec_DecodeArp.f k l = some (a, b, c, d, e, f) ∧ impl_DecodeArp.f k l = some (a, b, c, d, e, f) := by
  unfold spec_DecodeArp.f impl_DecodeArp.f
  by_cases h1 : (l.length : Int) < 28
  · rw [if_pos h1, if_pos h1]
    exact ⟨_, _, _, _, _, _, rfl, rfl⟩
  · rw [if_neg h1, if_neg h1]
    by_cases h2 : (l.length : Int) > 28
    · rw [if_pos h2, if_pos h2]
      exact ⟨_, _, _, _, _, _, rfl, rfl⟩
    · rw [if_neg h2, if_neg h2]
      have hl : l.length = 28 := by omega
      have q8 : (8 : Int) ≤ (l.length : Int) := by omega
      have q14 : (14 : Int) ≤ (l.length : Int) := by omega
      have q18 : (18 : Int) ≤ (l.length : Int) := by omega
      have q24 : (24 : Int) ≤ (l.length : Int) := by omega
      have q28 : (28 : Int) ≤ (l.length : Int) := by omega
      have q6 : (6 : Int) ≤ (l.length : Int) := by omega
      have sn : ∀ i j, j - i ≤ 6 → spec_l03Num.f k ((l.take j).drop i) = some (numa 0 ((l.take j).drop i)) := fun i j h => snum_f (cut_b hb i j) (by simp only [List.length_drop, List.length_take]; omega) (by simp only [List.length_drop, List.length_take]; omega)
      have gn : ∀ i j, j - i ≤ 6 → impl_get.f k ((l.take j).drop i) = some (numa 0 ((l.take j).drop i)) := fun i j h => iget_f (cut_b hb i j) (by simp only [List.length_drop, List.length_take]; omega) (by simp only [List.length_drop, List.length_take]; omega)
      have sl : spec_l03Num.f k (l.drop 24) = some (numa 0 ((l.take 28).drop 24)) := by
        have e : l.take 28 = l := List.take_of_length_le (by omega)
        rw [e]
        exact snum_f (hb.drop 24) (by simp only [List.length_drop]; omega) (by simp only [List.length_drop]; omega)
      have gh : impl_get.f k (l.take 6) = some (numa 0 (l.take 6)) := iget_f (hb.take 6) (by simp only [List.length_take]; omega) (by simp only [List.length_take]; omega)
      have hh := head_eq (t := l.take 6) (hb.take 6) (by simp only [List.length_take]; omega)
      rw [sn 6 8 (by omega), sn 8 14 (by omega), sn 14 18 (by omega), sn 18 24 (by omega), sl, gn 6 8 (by omega), gn 8 14 (by omega), gn 14 18 (by omega), gn 18 24 (by omega), gn 24 28 (by omega), gh]
      generalize numa 0 ((l.take 8).drop 6) = a
      generalize numa 0 ((l.take 14).drop 8) = b
      generalize numa 0 ((l.take 18).drop 14) = c
      generalize numa 0 ((l.take 24).drop 18) = d
      generalize numa 0 ((l.take 28).drop 24) = e
      simp only [Option.bind_some, spec_l04Head.f, spec_l03Same.f, hh, okA_spec, okA_impl, q8, q14, q18, q24, q28, q6, if_true, decide_eq_true_eq, Nat.reduceLeDiff, Int.reduceLE]
      by_cases h3 : numa 0 (l.take 6) = 4429186564
      · rw [if_pos h3]
        by_cases h4 : okA a b c d e
        · rw [if_pos h4]
          exact ⟨_, _, _, _, _, _, rfl, rfl⟩
        · rw [if_neg h4]
          exact ⟨_, _, _, _, _, _, rfl, rfl⟩
      · rw [if_neg h3]
        exact ⟨_, _, _, _, _, _, rfl, rfl⟩
theorem FnExactDecodeArp : laws_FnExactDecodeArp.Pure := by
  intro l _ _ hw
  have hb := Bs.of hw
  by_cases h : (l.length : Int) > 1048576
  · refine ⟨1, ?_⟩
    unfold laws_FnExactDecodeArp.f
    rw [if_pos h]
  · have hn : l.length ≤ 1048576 := by omega
    obtain ⟨k, hk⟩ : ∃ k, k = l.length + 200 := ⟨_, rfl⟩
    refine ⟨k + 1, ?_⟩
    unfold laws_FnExactDecodeArp.f
    rw [if_neg h, toB_f (by omega) (by omega)]
    simp only [Option.bind_some]
    obtain ⟨a, b, c, d, e, f, e1, e2⟩ := arp_same hb (k := k + 1) (by omega)
    rw [e1, e2]
    have hq : laws_eqArp.f a b c d e a b c d e = some true := by
      unfold laws_eqArp.f
      simp
    simp only [Option.bind_some, hq, if_true, bne_self_eq_false]
    rw [laws_FnExactDecodeArp.j0, if_neg (by simp), toB_f (by omega) (by omega)]
    simp only [Option.bind_some]
    rw [eqB_f (by omega) (by omega)]
    simp

end Go.Proofs.Ytdigkdoihfpdgaa.Pure
