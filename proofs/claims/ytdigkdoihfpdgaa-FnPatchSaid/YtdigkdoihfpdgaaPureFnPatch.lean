/- The patched checksum is that of the bytes with one number replaced, and with their own checksum behind them bytes have the checksum 0, for drawn bytes of even length; without conditions. -/
import Derived.Test.YtdigkdoihfpdgaaPFnPatchx2
set_option linter.unusedVariables false
set_option linter.unusedSimpArgs false
namespace Go.Proofs.Ytdigkdoihfpdgaa.Pure
open Go.RowKit Go.Proofs.Ytdigkdoihfpdgaa.PFnPatch Go.Proofs.YtdigkdoihfpdgaaW.PrintWords Go.Proofs.YtdigkdoihfpdgaaW.PrintLast

/-! ### base -/
theorem wf64 {a : Int} (h : (Lit.int .i64 a).wf = true) : -9223372036854775808 ≤ a ∧ a ≤ 9223372036854775807 := by
  have h1 : IntKind.i64.min = -9223372036854775808 := by decide
  have h2 : IntKind.i64.max = 9223372036854775807 := by decide
  simp only [Lit.wf, Bool.and_eq_true, decide_eq_true_eq] at h
  omega
theorem tm_pos {a : Int} (n : Int) (h : 0 ≤ a) : Int.tmod a n = a % n := Int.tmod_eq_emod_of_nonneg h
theorem tm_neg {a : Int} (n : Int) (h : a ≤ 0) : Int.tmod a n = -((-a) % n) := by
  have := Int.neg_tmod (-a) n
  rw [Int.neg_neg] at this
  rw [this, Int.tmod_eq_emod_of_nonneg (by omega)]
theorem td_pos {a : Int} (n : Int) (h : 0 ≤ a) : Int.tdiv a n = a / n := Int.tdiv_eq_ediv_of_nonneg h
theorem wr64 {a : Int} (h : -9223372036854775808 ≤ a ∧ a ≤ 9223372036854775807) : wrap64 a = a := by
  unfold wrap64
  omega
theorem dec_eq {p : Prop} [Decidable p] {b : Bool} (h : b = true ↔ p) : some b = some (decide p) := by
  rw [Option.some.injEq, Bool.eq_iff_iff, decide_eq_true_eq]
  exact h
theorem ite_dec (p q : Prop) [Decidable p] [Decidable q] : (if p then some (decide q) else some false) = some (decide (p ∧ q)) := by
  by_cases h : p <;> simp [h]
theorem beq_dec (a b : Int) : (a == b) = decide (a = b) := by
  rw [Bool.eq_iff_iff]
  simp

/-! ### bits -/
theorem wraps_i64 (n : Int) (h₀ : 0 ≤ n) (h₁ : n < 2 ^ 63) : IntKind.i64.wrap n = n := by rw [IntKind.wrap_i64]; omega
/-- The low bits of any whole number. -/
theorem and_low (i : Nat) (hi : i ≤ 62) (x : Int) : Go.bits .and .i64 x (2 ^ i - 1) = x % 2 ^ i := by
  have hpos : 0 < 2 ^ i := Nat.two_pow_pos i
  have h62 : 2 ^ i ≤ 2 ^ 62 := Nat.pow_le_pow_right (by decide) hi
  have hc : ((2 : Int) ^ i - 1) = ((2 ^ i - 1 : Nat) : Int) := by
    rw [Int.natCast_sub hpos]; simp
  have hx0 : 0 ≤ x % 18446744073709551616 := Int.emod_nonneg _ (by decide)
  have hx : (BitVec.ofInt 64 x).toNat = (x % 18446744073709551616).toNat := by rw [BitVec.toNat_ofInt]; rfl
  have hd : ((2 : Int) ^ i) ∣ 18446744073709551616 := by
    rw [show (18446744073709551616 : Int) = 2 ^ 64 from rfl]
    exact ⟨2 ^ (64 - i), by rw [← Int.pow_add, show i + (64 - i) = 64 from by omega]⟩
  have h2 : ((x % 18446744073709551616).toNat % 2 ^ i : Nat) = (x % 2 ^ i).toNat := by
    apply Int.ofNat.inj
    have e1 : (((x % 18446744073709551616).toNat % 2 ^ i : Nat) : Int) = x % 2 ^ i := by
      rw [Int.natCast_emod, Int.toNat_of_nonneg hx0, Int.natCast_pow]
      exact Int.emod_emod_of_dvd _ hd
    have e2 : 0 ≤ x % 2 ^ i := Int.emod_nonneg _ (by have : (0 : Int) < 2 ^ i := Int.pow_pos (by decide); omega)
    exact e1.trans (Int.toNat_of_nonneg e2).symm
  have e2 : 0 ≤ x % 2 ^ i := Int.emod_nonneg _ (by have : (0 : Int) < 2 ^ i := Int.pow_pos (by decide); omega)
  have e3 : x % 2 ^ i < 2 ^ i := Int.emod_lt_of_pos _ (Int.pow_pos (by decide))
  have e4 : (2 : Int) ^ i ≤ 2 ^ 62 := by exact_mod_cast h62
  have key : Go.bits .and .i64 x (2 ^ i - 1) = IntKind.i64.wrap (((BitVec.ofInt 64 x).toNat &&& (BitVec.ofInt 64 ((2 ^ i - 1 : Nat) : Int)).toNat : Nat) : Int) := by
    rw [hc]
    show IntKind.i64.wrap ((BitVec.ofInt 64 x &&& BitVec.ofInt 64 ((2 ^ i - 1 : Nat) : Int)).toNat : Int) = _
    rw [BitVec.toNat_and]
  rw [key, hx]
  have hm : (BitVec.ofInt 64 ((2 ^ i - 1 : Nat) : Int)).toNat = 2 ^ i - 1 := by
    rw [BitVec.ofInt_natCast, BitVec.toNat_ofNat]
    exact Nat.mod_eq_of_lt (by omega)
  rw [hm, Nat.and_two_pow_sub_one_eq_mod, h2, Int.toNat_of_nonneg e2]
  exact wraps_i64 _ e2 (by omega)
theorem and_65535 (x : Int) : Go.bits .and .i64 x 65535 = x % 65536 := and_low 16 (by decide) x
theorem and_255 (x : Int) : Go.bits .and .i64 x 255 = x % 256 := and_low 8 (by decide) x
theorem nat_and_high (a n : Nat) (ha : a < 2 ^ 32) (hn : n ≤ 32) : a &&& ((2 ^ (32 - n) - 1) * 2 ^ n) = a / 2 ^ n * 2 ^ n := by
  apply Nat.eq_of_testBit_eq
  intro i
  rw [Nat.testBit_and, Nat.testBit_mul_two_pow, Nat.testBit_mul_two_pow, Nat.testBit_div_two_pow, Nat.testBit_two_pow_sub_one]
  by_cases h : n ≤ i
  · simp only [h, decide_true, Bool.true_and]
    rw [show i - n + n = i from by omega]
    by_cases h3 : i - n < 32 - n
    · simp [h3]
    · have : a.testBit i = false := Nat.testBit_lt_two_pow (Nat.lt_of_lt_of_le ha (Nat.pow_le_pow_right (by decide) (by omega)))
      simp [this]
  · simp [h]
theorem and_high (a : Int) (n : Nat) (h0 : 0 ≤ a) (h1 : a ≤ 4294967295) (hn : n ≤ 32) : Go.bits .and .i64 a ((2 ^ (32 - n) - 1) * 2 ^ n) = a / 2 ^ n * 2 ^ n := by
  obtain ⟨b, rfl⟩ := Int.eq_ofNat_of_zero_le h0
  have hc : (((2 : Int) ^ (32 - n) - 1) * 2 ^ n) = (((2 ^ (32 - n) - 1) * 2 ^ n : Nat) : Int) := by
    rw [Int.natCast_mul, Int.natCast_sub (Nat.two_pow_pos _)]; simp
  have hl : (2 ^ (32 - n) - 1) * 2 ^ n ≤ 4294967295 := by
    rw [Nat.sub_mul, ← Nat.pow_add, show 32 - n + n = 32 from by omega]
    have := Nat.two_pow_pos n
    omega
  rw [hc, (bits_nat .i64 63 (by decide) wraps_i64 b _ (by omega) (by omega)).1, nat_and_high b n (by omega) hn]
  simp

/-! ### lists -/
theorem rd_at {xs : List Int} {i : Nat} (h : i < xs.length) : rd xs (i : Int) = xs[i] := by
  unfold rd
  rw [Int.toNat_natCast, List.getD_eq_getElem?_getD, List.getElem?_eq_getElem h]
  rfl
theorem wr_succ {i n : Nat} (h : i < n) (hn : n ≤ 281474976710656) : wrap64 ((i : Int) + 1) = ((i + 1 : Nat) : Int) := by
  rw [wr64 (by omega)]
  omega
theorem maxLen_le {n : Nat} (h : n ≤ 1048576) : n ≤ 281474976710656 := by omega

/-! ### wsum -/
/-- What a sum of numbers of two bytes folds to. -/
def fold (s : Int) : Int := if s = 0 then 0 else (s - 1) % 65535 + 1
theorem fold_le (s : Int) (h : 0 ≤ s) : 0 ≤ fold s ∧ fold s ≤ 65535 := by unfold fold; split <;> omega
theorem fold_low {s : Int} (h : 0 ≤ s ∧ s ≤ 65535) : fold s = s := by unfold fold; split <;> omega
theorem fold_step {s : Int} (h : s > 65535) : fold (s / 65536 + s % 65536) = fold s := by
  unfold fold
  rw [if_neg (by omega), if_neg (by omega)]
  omega
theorem fold_sub {s : Int} (h : s > 65535) : fold (s - 65535) = fold s := by
  unfold fold
  rw [if_neg (by omega), if_neg (by omega)]
  omega
/-- The sum of bytes: the one at a place with 'b' counts 256 times, and so on in turn. -/
def wsp : Bool → List Int → Int
  | _, [] => 0
  | true, a :: r => a * 256 + wsp false r
  | false, a :: r => a + wsp true r
/-- All are bytes. -/
def Bs (l : List Int) : Prop := ∀ x ∈ l, 0 ≤ x ∧ x ≤ 255
theorem Bs.get {l : List Int} (h : Bs l) {i : Nat} (hi : i < l.length) : 0 ≤ l[i] ∧ l[i] ≤ 255 := h _ (List.getElem_mem hi)
theorem Bs.of {l : List Int} (h : ∀ x ∈ l, (Lit.int .u8 x).wf = true) : Bs l := by
  intro x hx
  have hw := h x hx
  have h1 : IntKind.u8.min = 0 := by decide
  have h2 : IntKind.u8.max = 255 := by decide
  simp only [Lit.wf, Bool.and_eq_true, decide_eq_true_eq] at hw
  omega
theorem Bs.append {a b : List Int} (ha : Bs a) (hb : Bs b) : Bs (a ++ b) := by
  intro x hx
  rcases List.mem_append.1 hx with h | h
  · exact ha x h
  · exact hb x h
theorem Bs.take {l : List Int} (h : Bs l) (n : Nat) : Bs (l.take n) := fun x hx => h x (List.mem_of_mem_take hx)
theorem Bs.drop {l : List Int} (h : Bs l) (n : Nat) : Bs (l.drop n) := fun x hx => h x (List.mem_of_mem_drop hx)
theorem Bs.tail {a : Int} {l : List Int} (h : Bs (a :: l)) : Bs l := fun x hx => h x (List.mem_cons_of_mem _ hx)
theorem wsp_bd (l : List Int) : ∀ (b : Bool), Bs l → 0 ≤ wsp b l ∧ wsp b l ≤ 65280 * (l.length : Int) := by
  induction l with
  | nil => intro b _; cases b <;> simp [wsp]
  | cons a r ih =>
    intro b h
    have ha := h a (List.mem_cons_self ..)
    have h1 := ih true h.tail
    have h2 := ih false h.tail
    cases b <;> (simp only [wsp, List.length_cons]; omega)
theorem drop_cons {l : List Int} {i : Nat} (h : i < l.length) : l.drop i = l[i] :: l.drop (i + 1) := List.drop_eq_getElem_cons h
/-- The checksum of bytes. -/
def csum (l : List Int) : Int := 65535 - fold (wsp true l)
theorem csum_le {l : List Int} (h : Bs l) : 0 ≤ csum l ∧ csum l ≤ 65535 := by
  have := fold_le _ (wsp_bd l true h).1
  unfold csum
  omega

/-! ### drawbase -/
theorem u64_nn (y : Int) : 0 ≤ IntKind.u64.wrap y := by simp [IntKind.wrap, IntKind.bits, IntKind.signed]; omega
theorem u64_id {y : Int} (h : 0 ≤ y ∧ y ≤ 9223372036854775807) : IntKind.u64.wrap y = y := by simp [IntKind.wrap, IntKind.bits, IntKind.signed]; omega
theorem xor_nn (a b : Int) : 0 ≤ Go.bits .xor .u64 a b := by
  show 0 ≤ IntKind.u64.wrap _
  exact u64_nn _
theorem mod_in {x n : Int} (hx : 0 ≤ x) (hn : 0 < n) (h2 : n ≤ 4611686018427387904) : 0 ≤ wrap64 (Int.tmod x n) ∧ wrap64 (Int.tmod x n) < n := by
  have e : Int.tmod x n = x % n := tm_pos n hx
  have h0 := Int.emod_nonneg x (show n ≠ 0 by omega)
  have h1 := Int.emod_lt_of_pos x hn
  rw [e, wr64 (by omega)]
  exact ⟨h0, h1⟩

/-! ### lwdraw -/
theorem lwb_l (l : List Int) (hn : l.length ≤ 1048576) (m : List Int) (p : Int) (d : Nat) : ∀ (k i : Nat) (st : Int), i + d = l.length → d < k → ∃ st', laws_lwBegin.l0 k l (i : Int) m p st = some (p, st') := by
  induction d with
  | zero =>
    intro k i st hi hk
    obtain ⟨k, rfl⟩ : ∃ m, k = m + 1 := ⟨k - 1, by omega⟩
    simp only [laws_lwBegin.l0]
    rw [if_neg (by omega)]
    exact ⟨st, rfl⟩
  | succ d ih =>
    intro k i st hi hk
    obtain ⟨k, rfl⟩ : ∃ m, k = m + 1 := ⟨k - 1, by omega⟩
    simp only [laws_lwBegin.l0]
    rw [if_pos (by omega), if_pos (by omega), wr_succ (n := l.length) (by omega) (by omega)]
    exact ih k (i + 1) _ (by omega) (by omega)
theorem lwb_f {l : List Int} (hn : l.length ≤ 1048576) (a : Int) {k : Nat} (hk : l.length < k) : ∃ st, laws_lwBegin.f k l a = some (0, st) := by
  unfold laws_lwBegin.f
  exact lwb_l l hn l 0 l.length k 0 _ (by omega) hk
theorem lwn_f {l : List Int} (hl : l.length ≤ 1048576) {p : Int} (st : Int) {n : Int} (hp : 0 ≤ p) (hn : 0 < n) (h2 : n ≤ 4611686018427387904) : ∃ r p' st', laws_lwNext.f l p st n = some (r, p', st') ∧ 0 ≤ r ∧ r < n ∧ 0 ≤ p' := by
  unfold laws_lwNext.f
  rw [if_neg (show ¬ n ≤ 0 by omega), u64_id (y := n) (by omega)]
  by_cases h : p < (l.length : Int)
  · rw [if_pos h, if_pos hp, if_neg (show ¬ n = 0 by omega)]
    have := mod_in (xor_nn (IntKind.u64.wrap (IntKind.u64.wrap (st * 6364136223846793005) + 1442695040888963407) / 8589934592) (IntKind.u64.wrap (rd l p))) hn h2
    exact ⟨_, _, _, rfl, this.1, this.2, by rw [wr64 (by omega)]; omega⟩
  · rw [if_neg h, if_neg (show ¬ n = 0 by omega)]
    have hq : 0 ≤ IntKind.u64.wrap (IntKind.u64.wrap (st * 6364136223846793005) + 1442695040888963407) / 8589934592 := by
      have := u64_nn (IntKind.u64.wrap (st * 6364136223846793005) + 1442695040888963407)
      omega
    have := mod_in hq hn h2
    exact ⟨_, _, _, rfl, this.1, this.2, hp⟩

/-! ### carried -/
theorem wrap_u64 (n : Int) : IntKind.u64.wrap n = n % 18446744073709551616 := by simp [IntKind.wrap, IntKind.bits, IntKind.signed]
theorem wru {x : Int} (h : 0 ≤ x ∧ x < 18446744073709551616) : IntKind.u64.wrap x = x := by rw [wrap_u64]; omega
theorem wraps_u64 (n : Int) (h₀ : 0 ≤ n) (h₁ : n < 2 ^ 63) : IntKind.u64.wrap n = n := by rw [wrap_u64]; omega
theorem low_u64 (i : Nat) (hi : i ≤ 62) (x : Int) (h0 : 0 ≤ x) (h1 : x < 18446744073709551616) : Go.bits .and .u64 x (2 ^ i - 1) = x % 2 ^ i := by
  obtain ⟨a, rfl⟩ := Int.eq_ofNat_of_zero_le h0
  have hpos : 0 < 2 ^ i := Nat.two_pow_pos i
  have h62 : 2 ^ i ≤ 2 ^ 62 := Nat.pow_le_pow_right (by decide) hi
  have hc : ((2 : Int) ^ i - 1) = ((2 ^ i - 1 : Nat) : Int) := by
    rw [Int.natCast_sub hpos]; simp
  have hw : ∀ n : Int, 0 ≤ n → n < 2 ^ 64 → IntKind.u64.wrap n = n := fun n a b => by rw [wrap_u64]; omega
  rw [hc, (bits_nat .u64 64 (by decide) hw a _ (by omega) (by omega)).1, Nat.and_two_pow_sub_one_eq_mod]
  simp
theorem u64_65535 (x : Int) (h0 : 0 ≤ x) (h1 : x < 18446744073709551616) : Go.bits .and .u64 x 65535 = x % 65536 := low_u64 16 (by decide) x h0 h1
theorem not_u64 (x : Int) (h0 : 0 ≤ x) (h1 : x < 18446744073709551616) : Go.bits .xor .u64 18446744073709551615 x = 18446744073709551615 - x := by
  obtain ⟨a, rfl⟩ := Int.eq_ofNat_of_zero_le h0
  have key : Go.bits .xor .u64 18446744073709551615 (a : Int) = IntKind.u64.wrap ((BitVec.ofInt 64 18446744073709551615 ^^^ BitVec.ofInt 64 (a : Int)).toNat : Int) := rfl
  rw [key, show BitVec.ofInt 64 18446744073709551615 = BitVec.allOnes 64 from by decide, BitVec.allOnes_xor, BitVec.toNat_not, BitVec.ofInt_natCast, BitVec.toNat_ofNat, wrap_u64]
  omega
theorem not_i64 (x : Int) (h : -9223372036854775808 ≤ x ∧ x ≤ 9223372036854775807) : Go.bits .xor .i64 (-1) x = -1 - x := by
  have key : Go.bits .xor .i64 (-1) x = IntKind.i64.wrap ((BitVec.ofInt 64 (-1) ^^^ BitVec.ofInt 64 x).toNat : Int) := rfl
  rw [key, show BitVec.ofInt 64 (-1) = BitVec.allOnes 64 from by decide, BitVec.allOnes_xor, BitVec.toNat_not, BitVec.toNat_ofInt, IntKind.wrap_i64]
  omega
theorem carried_f {s : Int} (h0 : 0 ≤ s) (h1 : s < 281474976710656) {k : Nat} (hk : 8 ≤ k) : impl_carried.f k s = some (fold s) := by
  have h8 : impl_carried.f 8 s = some (fold s) := by
    unfold impl_carried.f
    have step : ∀ (k : Nat) (t : Int), 0 ≤ t → t < 281474976710656 → t > 65535 → impl_carried.l0 (k + 1) t = impl_carried.l0 k (t / 65536 + t % 65536) := by
      intro k t a b c
      simp only [impl_carried.l0]
      rw [if_pos c, u64_65535 _ a (by omega), wrap_u64, Int.emod_eq_of_lt (by omega) (by omega)]
    have stop : ∀ (k : Nat) (t : Int), 0 ≤ t → t ≤ 65535 → impl_carried.l0 (k + 1) t = some (fold t) := by
      intro k t a b
      simp only [impl_carried.l0]
      rw [if_neg (by omega), fold_low ⟨a, b⟩]
    by_cases a1 : s > 65535
    · rw [step 7 s h0 h1 a1, ← fold_step a1]
      generalize hs : s / 65536 + s % 65536 = s1
      have b1 : 0 ≤ s1 ∧ s1 < 4295032832 := by omega
      by_cases a2 : s1 > 65535
      · rw [step 6 s1 (by omega) (by omega) a2, ← fold_step a2]
        generalize hs2 : s1 / 65536 + s1 % 65536 = s2
        have b2 : 0 ≤ s2 ∧ s2 < 196608 := by omega
        by_cases a3 : s2 > 65535
        · rw [step 5 s2 (by omega) (by omega) a3, ← fold_step a3]
          generalize hs3 : s2 / 65536 + s2 % 65536 = s3
          have b3 : 0 ≤ s3 ∧ s3 < 65540 := by omega
          by_cases a4 : s3 > 65535
          · rw [step 4 s3 (by omega) (by omega) a4, ← fold_step a4]
            exact stop 3 _ (by omega) (by omega)
          · exact stop 4 _ (by omega) (by omega)
        · exact stop 5 _ (by omega) (by omega)
      · exact stop 6 _ (by omega) (by omega)
    · exact stop 7 _ (by omega) (by omega)
  exact at_rounds (fun k => impl_carried.mono s k) hk h8

/-! ### specsum -/
theorem ssum_l (l : List Int) (hb : Bs l) (hn : l.length ≤ 1048576) (d : Nat) : ∀ (k i : Nat) (s : Int), l.length - i ≤ d → d < k → 0 ≤ s → s ≤ 65535 → i ≤ l.length + 1 → spec_l01Sum.l0 k l s (i : Int) = some (fold (s + wsp true (l.drop i))) := by
  induction d with
  | zero =>
    intro k i s hi hk h0 h1 hl
    obtain ⟨k, rfl⟩ : ∃ m, k = m + 1 := ⟨k - 1, by omega⟩
    simp only [spec_l01Sum.l0]
    rw [if_neg (by omega), List.drop_eq_nil_of_le (by omega)]
    simp only [wsp, Int.add_zero]
    rw [fold_low ⟨h0, h1⟩]
  | succ d ih =>
    intro k i s hi hk h0 h1 hl
    obtain ⟨k, rfl⟩ : ∃ m, k = m + 1 := ⟨k - 1, by omega⟩
    simp only [spec_l01Sum.l0]
    by_cases c1 : i < l.length
    · have b1 := hb.get c1
      rw [if_pos (by omega), if_pos (by omega), wr64 (a := (i : Int) + 1) (by omega), rd_at c1, wr64 (a := l[i]) (by omega), wr64 (a := l[i] * 256) (by omega), drop_cons c1]
      by_cases c2 : i + 1 < l.length
      · have b2 := hb.get c2
        have bd := wsp_bd (l.drop (i + 1 + 1)) true (hb.drop _)
        rw [if_pos (by omega), if_pos (by omega), show (i : Int) + 1 = ((i + 1 : Nat) : Int) from by omega, rd_at c2, wr64 (a := l[i + 1]) (by omega), wr64 (a := l[i] * 256 + l[i + 1]) (by omega), wr64 (a := s + (l[i] * 256 + l[i + 1])) (by omega), wr64 (a := (i : Int) + 2) (by omega), show (i : Int) + 2 = ((i + 1 + 1 : Nat) : Int) from by omega, drop_cons c2]
        simp only [wsp]
        by_cases c3 : s + (l[i] * 256 + l[i + 1]) > 65535
        · rw [if_pos c3, wr64 (by omega), ih k _ _ (by omega) (by omega) (by omega) (by omega) (by omega)]
          rw [← fold_sub (s := s + (l[i] * 256 + (l[i + 1] + wsp true (l.drop (i + 1 + 1))))) (by omega)]
          congr 2
          omega
        · rw [if_neg c3, ih k _ _ (by omega) (by omega) (by omega) (by omega) (by omega)]
          congr 2
          omega
      · rw [if_neg (by omega), wr64 (a := s + l[i] * 256) (by omega), wr64 (a := (i : Int) + 2) (by omega), show (i : Int) + 2 = ((i + 2 : Nat) : Int) from by omega, List.drop_eq_nil_of_le (show l.length ≤ i + 1 by omega)]
        have e2 : l.drop (i + 2) = [] := List.drop_eq_nil_of_le (by omega)
        simp only [wsp, Int.add_zero]
        by_cases c3 : s + l[i] * 256 > 65535
        · rw [if_pos c3, wr64 (by omega), ih k _ _ (by omega) (by omega) (by omega) (by omega) (by omega), e2]
          simp only [wsp, Int.add_zero]
          rw [← fold_sub (s := s + l[i] * 256) c3]
        · rw [if_neg c3, ih k _ _ (by omega) (by omega) (by omega) (by omega) (by omega), e2]
          simp only [wsp, Int.add_zero]
    · rw [if_neg (by omega), List.drop_eq_nil_of_le (by omega)]
      simp only [wsp, Int.add_zero]
      rw [fold_low ⟨h0, h1⟩]
theorem scheck_f {l : List Int} (hb : Bs l) (hn : l.length ≤ 1048576) {k : Nat} (hk : l.length < k) : spec_Checksum.f k l = some (csum l) := by
  unfold spec_Checksum.f spec_l01Sum.f
  have h := ssum_l l hb hn l.length k 0 0 (by omega) hk (by omega) (by omega) (by omega)
  rw [show ((0 : Nat) : Int) = 0 from rfl] at h
  have bd := wsp_bd l true hb
  have fl := fold_le _ bd.1
  rw [h]
  simp only [Option.bind_some, List.drop_zero, Int.zero_add]
  rw [wr64 (by omega)]
  rfl

/-! ### implsum -/
theorem isum_l (l : List Int) (hb : Bs l) (hn : l.length ≤ 1048576) (d : Nat) : ∀ (k i : Nat) (s : Int), i + d = l.length → d + 8 < k → 0 ≤ s → s + 65280 * (d : Int) < 281474976710656 → impl_Checksum.l0 k s l (l.length : Int) (i : Int) = some (65535 - fold (s + wsp (i % 2 == 0) (l.drop i))) := by
  induction d with
  | zero =>
    intro k i s hi hk h0 h1
    obtain ⟨k, rfl⟩ : ∃ m, k = m + 1 := ⟨k - 1, by omega⟩
    simp only [impl_Checksum.l0]
    rw [if_neg (by omega), List.drop_eq_nil_of_le (by omega), carried_f h0 (by omega) (by omega)]
    have e : ∀ b, wsp b [] = 0 := fun b => by cases b <;> rfl
    rw [e]
    simp only [Option.bind_some, Int.add_zero]
    have fl := fold_le s h0
    rw [not_u64 _ fl.1 (by omega), u64_65535 _ (by omega) (by omega), wr64 (by omega)]
    congr 1
    omega
  | succ d ih =>
    intro k i s hi hk h0 h1
    obtain ⟨k, rfl⟩ : ∃ m, k = m + 1 := ⟨k - 1, by omega⟩
    have c1 : i < l.length := by omega
    have b1 := hb.get c1
    simp only [impl_Checksum.l0]
    rw [if_pos (by omega), if_pos (by omega), if_pos (by omega), rd_at c1, tm_pos _ (by omega), wr_succ c1 (by omega), drop_cons c1, wrap_u64 l[i], Int.emod_eq_of_lt b1.1 (by omega)]
    by_cases c2 : i % 2 = 0
    · rw [if_pos (by omega), wrap_u64 (l[i] * 256), Int.emod_eq_of_lt (by omega) (by omega), wrap_u64, Int.emod_eq_of_lt (by omega) (by omega), ih k (i + 1) _ (by omega) (by omega) (by omega) (by omega)]
      rw [show (i % 2 == 0) = true from by simp [c2], show ((i + 1) % 2 == 0) = false from by simp; omega]
      simp only [wsp]
      congr 3
      omega
    · rw [if_neg (by omega), wrap_u64, Int.emod_eq_of_lt (by omega) (by omega), ih k (i + 1) _ (by omega) (by omega) (by omega) (by omega)]
      rw [show (i % 2 == 0) = false from by simp; omega, show ((i + 1) % 2 == 0) = true from by simp; omega]
      simp only [wsp]
      congr 3
      omega
theorem icheck_f {l : List Int} (hb : Bs l) (hn : l.length ≤ 1048576) {k : Nat} (hk : l.length + 8 < k) : impl_Checksum.f k l = some (csum l) := by
  unfold impl_Checksum.f
  have h := isum_l l hb hn l.length k 0 0 (by omega) hk (by omega) (by omega)
  rw [show ((0 : Nat) : Int) = 0 from rfl] at h
  rw [h]
  simp only [List.drop_zero, Int.zero_add]
  rfl

/-! ### patch -/
theorem patchI {a b c : Int} (ha : -9223372036854775808 ≤ a ∧ a ≤ 9223372036854775807) (hb : -9223372036854775808 ≤ b ∧ b ≤ 9223372036854775807) {k : Nat} (hk : 8 ≤ k) : impl_ChecksumPatch.f k a b c = some (65535 - fold ((65535 - a % 65536) + (65535 - b % 65536) + c % 65536)) := by
  unfold impl_ChecksumPatch.f
  rw [not_i64 _ ha, not_i64 _ hb, and_65535, and_65535, and_65535]
  rw [show (-1 - a) % 65536 = 65535 - a % 65536 from by omega, show (-1 - b) % 65536 = 65535 - b % 65536 from by omega]
  rw [wru (x := 65535 - a % 65536) (by omega), wru (x := 65535 - b % 65536) (by omega), wru (x := c % 65536) (by omega), wru (x := 65535 - a % 65536 + (65535 - b % 65536)) (by omega), wru (x := 65535 - a % 65536 + (65535 - b % 65536) + c % 65536) (by omega)]
  generalize hx : 65535 - a % 65536 + (65535 - b % 65536) + c % 65536 = x
  have fl := fold_le x (by omega)
  rw [carried_f (by omega) (by omega) (by omega)]
  simp only [Option.bind_some]
  rw [not_u64 _ fl.1 (by omega), u64_65535 _ (by omega) (by omega), wr64 (by omega)]
  congr 1
  omega
theorem fold_mod {x : Int} (h : 0 ≤ x) : fold x % 65535 = x % 65535 := by
  unfold fold
  split <;> omega
def wt (b : Bool) (i : Nat) : Int := if (i % 2 == 0) = b then 256 else 1
theorem wt_succ (b : Bool) (i : Nat) : wt b (i + 1) = wt (!b) i := by
  unfold wt
  have h : ((i + 1) % 2 == 0) = !(i % 2 == 0) := by
    rcases Nat.mod_two_eq_zero_or_one i with h | h
    · rw [show (i + 1) % 2 = 1 from by omega, h]; rfl
    · rw [show (i + 1) % 2 = 0 from by omega, h]; rfl
  rw [h]
  cases b <;> cases (i % 2 == 0) <;> rfl
theorem wsp_set (l : List Int) : ∀ (b : Bool) (i : Nat) (x : Int) (h : i < l.length), wsp b (l.set i x) = wsp b l + (x - l[i]) * wt b i := by
  induction l with
  | nil => intro b i x h; simp at h
  | cons a r ih =>
    intro b i x h
    cases i with
    | zero => cases b <;> (simp only [List.set_cons_zero, wsp, wt, List.getElem_cons_zero]; simp; omega)
    | succ i =>
      have h2 : i < r.length := by simpa using h
      have e := ih (!b) i x h2
      rw [wt_succ, List.set_cons_succ]
      cases b <;> (simp only [wsp, List.getElem_cons_succ]; simp only [Bool.not_true, Bool.not_false] at e ⊢; omega)
theorem wsp_app (l m : List Int) : ∀ b : Bool, wsp b (l ++ m) = wsp b l + wsp (if l.length % 2 = 0 then b else !b) m := by
  induction l with
  | nil => intro b; simp [wsp]
  | cons a r ih =>
    intro b
    have e := ih (!b)
    have h : (if (a :: r).length % 2 = 0 then b else !b) = (if r.length % 2 = 0 then !b else !!b) := by
      simp only [List.length_cons]
      rcases Nat.mod_two_eq_zero_or_one r.length with h | h
      · rw [if_neg (by omega), if_pos h]
      · rw [if_pos (by omega), if_neg (by omega), Bool.not_not]
    rw [h, List.cons_append]
    cases b <;> (simp only [wsp]; simp only [Bool.not_true, Bool.not_false] at e ⊢; omega)
theorem csum_end {c : List Int} (hb : Bs c) (h2 : c.length % 2 = 0) : csum (c ++ [csum c / 256 % 256, csum c % 256]) = 0 := by
  have hS := (wsp_bd c true hb).1
  unfold csum
  rw [wsp_app, if_pos h2]
  simp only [wsp]
  generalize wsp true c = S at *
  unfold fold
  by_cases h : S = 0
  · subst h
    simp
  · rw [if_neg h]
    split <;> omega
theorem near_f {S o n : Int} (hS : 0 ≤ S) (ho : 0 ≤ o ∧ o ≤ 65535) (hn : 0 ≤ n ∧ n ≤ 65535) (h : 0 ≤ S - o + n) : (65535 - fold (fold S + (65535 - o) + n)) % 65535 = (65535 - fold (S - o + n)) % 65535 := by
  have h1 := fold_mod hS
  have h2 := fold_le S hS
  have h3 := fold_mod (x := fold S + (65535 - o) + n) (by omega)
  have h4 := fold_mod h
  omega

/-! ### the law -/
theorem pat_l (a n : Int) (ha : 0 ≤ a ∧ a ≤ 1000000) (hn : 0 ≤ n ∧ n ≤ 1000) (d : Nat) : ∀ (k : Nat) (x : List Int) (i : Int), i + (d : Int) = n → 0 ≤ i → (x.length : Int) = i → Bs x → d < k → ∃ b, laws_lwPattern.l0 k a n x i = some b ∧ (b.length : Int) = n ∧ Bs b := by
  induction d with
  | zero =>
    intro k x i hi h0 hx hb hk
    obtain ⟨k, rfl⟩ : ∃ q, k = q + 1 := ⟨k - 1, by omega⟩
    rw [laws_lwPattern.l0, if_neg (by omega)]
    exact ⟨x, rfl, by omega, hb⟩
  | succ d ih =>
    intro k x i hi h0 hx hb hk
    obtain ⟨k, rfl⟩ : ∃ q, k = q + 1 := ⟨k - 1, by omega⟩
    rw [laws_lwPattern.l0, if_pos (by omega), if_pos (by omega), wr64 (a := i + 1) (by omega)]
    refine ih k _ (i + 1) (by omega) (by omega) (by simp; omega) (Bs.append hb ?_) (by omega)
    intro z hz
    simp only [List.mem_cons, List.not_mem_nil, or_false] at hz
    subst hz
    omega
theorem pat_f {a n : Int} (ha : 0 ≤ a ∧ a ≤ 1000000) (hn : 0 ≤ n ∧ n ≤ 1000) {k : Nat} (hk : 1000 < k) : ∃ b, laws_lwPattern.f k a n = some b ∧ (b.length : Int) = n ∧ Bs b := by
  unfold laws_lwPattern.f
  exact pat_l a n ha hn n.toNat k [] 0 (by omega) (by omega) rfl (fun z hz => by cases hz) (by omega)
theorem bset {l : List Int} (h : Bs l) (i : Nat) {x : Int} (hx : 0 ≤ x ∧ x ≤ 255) : Bs (l.set i x) := by
  intro z hz
  rcases List.mem_or_eq_of_mem_set hz with hz | rfl
  · exact h z hz
  · exact hx
theorem j0_f {l : List Int} (hl : l.length ≤ 1048576) {b : List Int} (hb : Bs b) (h1 : 2 ≤ b.length) (h2 : b.length % 2 = 0) (h3 : b.length ≤ 100) {p : Int} (st : Int) (hp : 0 ≤ p) {k : Nat} (hk : 300 ≤ k) : laws_FnPatch.j0 (k + 1) b l p st = some true := by
  rw [laws_FnPatch.j0, wr64 (a := (b.length : Int) / 2) (by omega)]
  obtain ⟨i, p1, s1, e, hi0, hi1, hp1⟩ := lwn_f hl st (n := (b.length : Int) / 2) hp (by omega) (by omega)
  rw [e]
  simp only [Option.bind_some]
  obtain ⟨q, rfl⟩ : ∃ q : Nat, i = (q : Int) := ⟨i.toNat, by omega⟩
  have e0 : wrap64 (2 * (q : Int)) = ((2 * q : Nat) : Int) := by rw [wr64 (by omega)]; omega
  have e1 : wrap64 (((2 * q : Nat) : Int) + 1) = ((2 * q + 1 : Nat) : Int) := by rw [wr64 (by omega)]; omega
  rw [e0, e1, if_pos (by omega), if_pos (by omega), if_pos (by omega), if_pos (by omega)]
  obtain ⟨n, p2, s2, e, hn0, hn1, hp2⟩ := lwn_f hl s1 (n := 65536) hp1 (by omega) (by omega)
  rw [e]
  simp only [Option.bind_some, List.nil_append]
  have c0 : 2 * q < b.length := by omega
  have c1 : 2 * q + 1 < b.length := by omega
  have b0 := hb.get c0
  have b1 := hb.get c1
  rw [if_pos (by simp; omega), icheck_f hb (by omega) (by omega), rd_at c0, rd_at c1]
  simp only [Option.bind_some]
  rw [wr64 (a := b[2 * q]) (by omega), wr64 (a := b[2 * q + 1]) (by omega), wr64 (a := b[2 * q] * 256) (by omega), wr64 (a := b[2 * q] * 256 + b[2 * q + 1]) (by omega)]
  have hs := csum_le hb
  rw [patchI (by omega) (by omega) (by omega)]
  simp only [Option.bind_some]
  rw [if_pos (by simp; omega), if_pos (by omega), if_pos (by omega), Int.toNat_natCast, Int.toNat_natCast]
  have hc : Bs ((b.set (2 * q) (n / 256 % 256)).set (2 * q + 1) (n % 256)) := bset (bset hb _ (by omega)) _ (by omega)
  have hw : wsp true ((b.set (2 * q) (n / 256 % 256)).set (2 * q + 1) (n % 256)) = wsp true b - (b[2 * q] * 256 + b[2 * q + 1]) + n := by
    rw [wsp_set _ _ _ _ (by simp; omega), wsp_set _ _ _ _ c0, List.getElem_set_ne (by omega)]
    have w0 : wt true (2 * q) = 256 := by unfold wt; rw [show 2 * q % 2 = 0 from by omega]; rfl
    have w1 : wt true (2 * q + 1) = 1 := by unfold wt; rw [show (2 * q + 1) % 2 = 1 from by omega]; rfl
    rw [w0, w1]
    omega
  have hcl : ((b.set (2 * q) (n / 256 % 256)).set (2 * q + 1) (n % 256)).length = b.length := by simp
  generalize hC : (b.set (2 * q) (n / 256 % 256)).set (2 * q + 1) (n % 256) = c at hc hw hcl ⊢
  have hs2 := csum_le hc
  have hS := (wsp_bd b true hb).1
  have hS2 := (wsp_bd c true hc).1
  rw [if_pos (by simp; omega), icheck_f hc (by omega) (by omega), scheck_f hc (by omega) (by omega)]
  simp only [Option.bind_some, if_true]
  have hnear : laws_lwNear.f (65535 - fold (65535 - csum b % 65536 + (65535 - (b[2 * q] * 256 + b[2 * q + 1]) % 65536) + n % 65536)) (csum c) = some true := by
    have g1 : 65535 - csum b % 65536 = fold (wsp true b) := by
      rw [show csum b % 65536 = csum b from by omega]
      unfold csum
      omega
    have g2 : (b[2 * q] * 256 + b[2 * q + 1]) % 65536 = b[2 * q] * 256 + b[2 * q + 1] := by omega
    rw [g1, g2, show n % 65536 = n from by omega]
    have hf := fold_le (wsp true b) hS
    have hf2 := fold_le (fold (wsp true b) + (65535 - (b[2 * q] * 256 + b[2 * q + 1])) + n) (by omega)
    have hn := near_f (S := wsp true b) (o := b[2 * q] * 256 + b[2 * q + 1]) (n := n) hS (by omega) (by omega) (by omega)
    rw [← hw] at hn
    have hq : csum c = 65535 - fold (wsp true c) := rfl
    unfold laws_lwNear.f
    rw [tm_pos _ (by omega), tm_pos _ (by omega), hq, if_pos hn, if_pos (by omega), decide_eq_true (by omega)]
  rw [hnear]
  simp only [Option.bind_some, if_true]
  rw [if_pos (by simp; omega)]
  have hend := csum_end hc (by omega)
  rw [icheck_f (Bs.append hc (by intro z hz; simp only [List.mem_cons, List.not_mem_nil, or_false] at hz; rcases hz with rfl | rfl <;> omega)) (by simp; omega) (by simp; omega), hend]
  rfl
theorem FnPatch : laws_FnPatch.Pure := by
  intro l _ _ _
  by_cases h : (l.length : Int) > 1048576
  · refine ⟨1, ?_⟩
    unfold laws_FnPatch.f
    rw [if_pos h]
  · have hl : l.length ≤ 1048576 := by omega
    obtain ⟨k, hk⟩ : ∃ k, k = l.length + 2000 := ⟨_, rfl⟩
    refine ⟨k + 1, ?_⟩
    unfold laws_FnPatch.f
    rw [if_neg h]
    obtain ⟨st, e⟩ := lwb_f hl 1 (k := k + 1) (by omega)
    rw [e]
    simp only [Option.bind_some]
    obtain ⟨x, p1, s1, e, hx0, hx1, hp1⟩ := lwn_f hl st (p := 0) (n := 9999) (by omega) (by omega) (by omega)
    rw [e]
    simp only [Option.bind_some]
    obtain ⟨y, p2, s2, e, hy0, hy1, hp2⟩ := lwn_f hl s1 (n := 20) hp1 (by omega) (by omega)
    rw [e]
    simp only [Option.bind_some]
    rw [wr64 (a := 2 * y) (by omega), wr64 (a := 2 + 2 * y) (by omega)]
    obtain ⟨b, e, hbl, hbb⟩ := pat_f (a := x) (n := 2 + 2 * y) (by omega) (by omega) (k := k + 1) (by omega)
    rw [e]
    simp only [Option.bind_some]
    obtain ⟨z, p3, s3, e, hz0, hz1, hp3⟩ := lwn_f hl s2 (n := 4) hp2 (by omega) (by omega)
    rw [e]
    simp only [Option.bind_some]
    split
    · rw [if_pos (by omega), if_pos (by omega), Int.toNat_natCast]
      refine j0_f hl (b := List.replicate b.length 0) ?_ (by simp; omega) (by simp; omega) (by simp; omega) s3 hp3 (by omega)
      intro w hw
      have := List.eq_of_mem_replicate hw
      omega
    · exact j0_f hl hbb (by omega) (by omega) (by omega) s3 hp3 (by omega)

end Go.Proofs.Ytdigkdoihfpdgaa.Pure
