/- The program's ShowMac answers as the reference's, for every whole number; without conditions. -/
import Derived.Test.YtnnplkhjmdbmbaaDoorPFnExactShowMacx1
set_option linter.unusedVariables false
set_option linter.unusedSimpArgs false
namespace Go.Proofs.YtnnplkhjmdbmbaaDoor.Pure
open Go.RowKit Go.Proofs.YtnnplkhjmdbmbaaDoor.PFnExactShowMac Go.Proofs.YtnnplkhjmdbmbaaDoorW.PrintWords Go.Proofs.YtnnplkhjmdbmbaaDoorW.PrintLast

/-! ### base -/
theorem wf64 {a : Int} (h : (Lit.int .i64 a).wf = true) : -9223372036854775808 ≤ a ∧ a ≤ 9223372036854775807 := by
  have h1 : IntKind.i64.min = -9223372036854775808 := by decide
  have h2 : IntKind.i64.max = 9223372036854775807 := by decide
  simp only [Lit.wf, Bool.and_eq_true, decide_eq_true_eq] at h
  omega
theorem tm_pos {a : Int} (n : Int) (h : 0 ≤ a) : Int.tmod a n = a % n := Int.tmod_eq_emod_of_nonneg h
theorem tm_neg {a : Int} (n : Int) (h : a ≤ 0) : Int.tmod a n = -((-a) % n) := by
  have := Int.neg_tmod (-a) n
  rw [Int.neg_neg] at this
  rw [this, Int.tmod_eq_emod_of_nonneg (by omega)]
theorem td_pos {a : Int} (n : Int) (h : 0 ≤ a) : Int.tdiv a n = a / n := Int.tdiv_eq_ediv_of_nonneg h
theorem wr64 {a : Int} (h : -9223372036854775808 ≤ a ∧ a ≤ 9223372036854775807) : wrap64 a = a := by
  unfold wrap64
  omega
theorem dec_eq {p : Prop} [Decidable p] {b : Bool} (h : b = true ↔ p) : some b = some (decide p) := by
  rw [Option.some.injEq, Bool.eq_iff_iff, decide_eq_true_eq]
  exact h
theorem ite_dec (p q : Prop) [Decidable p] [Decidable q] : (if p then some (decide q) else some false) = some (decide (p ∧ q)) := by
  by_cases h : p <;> simp [h]
theorem beq_dec (a b : Int) : (a == b) = decide (a = b) := by
  rw [Bool.eq_iff_iff]
  simp

/-! ### bits -/
theorem wraps_i64 (n : Int) (h₀ : 0 ≤ n) (h₁ : n < 2 ^ 63) : IntKind.i64.wrap n = n := by rw [IntKind.wrap_i64]; omega
/-- The low bits of any whole number. -/
theorem and_low (i : Nat) (hi : i ≤ 62) (x : Int) : Go.bits .and .i64 x (2 ^ i - 1) = x % 2 ^ i := by
  have hpos : 0 < 2 ^ i := Nat.two_pow_pos i
  have h62 : 2 ^ i ≤ 2 ^ 62 := Nat.pow_le_pow_right (by decide) hi
  have hc : ((2 : Int) ^ i - 1) = ((2 ^ i - 1 : Nat) : Int) := by
    rw [Int.natCast_sub hpos]; simp
  have hx0 : 0 ≤ x % 18446744073709551616 := Int.emod_nonneg _ (by decide)
  have hx : (BitVec.ofInt 64 x).toNat = (x % 18446744073709551616).toNat := by rw [BitVec.toNat_ofInt]; rfl
  have hd : ((2 : Int) ^ i) ∣ 18446744073709551616 := by
    rw [show (18446744073709551616 : Int) = 2 ^ 64 from rfl]
    exact ⟨2 ^ (64 - i), by rw [← Int.pow_add, show i + (64 - i) = 64 from by omega]⟩
  have h2 : ((x % 18446744073709551616).toNat % 2 ^ i : Nat) = (x % 2 ^ i).toNat := by
    apply Int.ofNat.inj
    have e1 : (((x % 18446744073709551616).toNat % 2 ^ i : Nat) : Int) = x % 2 ^ i := by
      rw [Int.natCast_emod, Int.toNat_of_nonneg hx0, Int.natCast_pow]
      exact Int.emod_emod_of_dvd _ hd
    have e2 : 0 ≤ x % 2 ^ i := Int.emod_nonneg _ (by have : (0 : Int) < 2 ^ i := Int.pow_pos (by decide); omega)
    exact e1.trans (Int.toNat_of_nonneg e2).symm
  have e2 : 0 ≤ x % 2 ^ i := Int.emod_nonneg _ (by have : (0 : Int) < 2 ^ i := Int.pow_pos (by decide); omega)
  have e3 : x % 2 ^ i < 2 ^ i := Int.emod_lt_of_pos _ (Int.pow_pos (by decide))
  have e4 : (2 : Int) ^ i ≤ 2 ^ 62 := by exact_mod_cast h62
  have key : Go.bits .and .i64 x (2 ^ i - 1) = IntKind.i64.wrap (((BitVec.ofInt 64 x).toNat &&& (BitVec.ofInt 64 ((2 ^ i - 1 : Nat) : Int)).toNat : Nat) : Int) := by
    rw [hc]
    show IntKind.i64.wrap ((BitVec.ofInt 64 x &&& BitVec.ofInt 64 ((2 ^ i - 1 : Nat) : Int)).toNat : Int) = _
    rw [BitVec.toNat_and]
  rw [key, hx]
  have hm : (BitVec.ofInt 64 ((2 ^ i - 1 : Nat) : Int)).toNat = 2 ^ i - 1 := by
    rw [BitVec.ofInt_natCast, BitVec.toNat_ofNat]
    exact Nat.mod_eq_of_lt (by omega)
  rw [hm, Nat.and_two_pow_sub_one_eq_mod, h2, Int.toNat_of_nonneg e2]
  exact wraps_i64 _ e2 (by omega)
theorem and_65535 (x : Int) : Go.bits .and .i64 x 65535 = x % 65536 := and_low 16 (by decide) x
theorem and_255 (x : Int) : Go.bits .and .i64 x 255 = x % 256 := and_low 8 (by decide) x
theorem nat_and_high (a n : Nat) (ha : a < 2 ^ 32) (hn : n ≤ 32) : a &&& ((2 ^ (32 - n) - 1) * 2 ^ n) = a / 2 ^ n * 2 ^ n := by
  apply Nat.eq_of_testBit_eq
  intro i
  rw [Nat.testBit_and, Nat.testBit_mul_two_pow, Nat.testBit_mul_two_pow, Nat.testBit_div_two_pow, Nat.testBit_two_pow_sub_one]
  by_cases h : n ≤ i
  · simp only [h, decide_true, Bool.true_and]
    rw [show i - n + n = i from by omega]
    by_cases h3 : i - n < 32 - n
    · simp [h3]
    · have : a.testBit i = false := Nat.testBit_lt_two_pow (Nat.lt_of_lt_of_le ha (Nat.pow_le_pow_right (by decide) (by omega)))
      simp [this]
  · simp [h]
theorem and_high (a : Int) (n : Nat) (h0 : 0 ≤ a) (h1 : a ≤ 4294967295) (hn : n ≤ 32) : Go.bits .and .i64 a ((2 ^ (32 - n) - 1) * 2 ^ n) = a / 2 ^ n * 2 ^ n := by
  obtain ⟨b, rfl⟩ := Int.eq_ofNat_of_zero_le h0
  have hc : (((2 : Int) ^ (32 - n) - 1) * 2 ^ n) = (((2 ^ (32 - n) - 1) * 2 ^ n : Nat) : Int) := by
    rw [Int.natCast_mul, Int.natCast_sub (Nat.two_pow_pos _)]; simp
  have hl : (2 ^ (32 - n) - 1) * 2 ^ n ≤ 4294967295 := by
    rw [Nat.sub_mul, ← Nat.pow_add, show 32 - n + n = 32 from by omega]
    have := Nat.two_pow_pos n
    omega
  rw [hc, (bits_nat .i64 63 (by decide) wraps_i64 b _ (by omega) (by omega)).1, nat_and_high b n (by omega) hn]
  simp

/-! ### addr0 -/
theorem in_f (a l h : Int) : spec_l01In.f a l h = some (decide (l ≤ a ∧ a ≤ h)) := by
  unfold spec_l01In.f
  by_cases h1 : a ≥ l
  · rw [if_pos h1]; congr 1; rw [decide_eq_decide]; omega
  · rw [if_neg h1]; congr 1; rw [eq_comm, decide_eq_false_iff_not]; omega

/-! ### txt -/
def BA (l : List UInt8) : ByteArray := ⟨l.toArray⟩
theorem BA_data (l : List UInt8) : (BA l).data.toList = l := by simp [BA]
theorem BA_size (l : List UInt8) : (BA l).size = l.length := by simp [BA, ByteArray.size]
theorem BA_ext {a b : ByteArray} (h : a.data.toList = b.data.toList) : a = b := by
  obtain ⟨⟨a⟩⟩ := a
  obtain ⟨⟨b⟩⟩ := b
  simp at h
  rw [h]
theorem BA_of (s : ByteArray) : BA s.data.toList = s := BA_ext (BA_data _)
theorem BA_app (a b : List UInt8) : BA a ++ BA b = BA (a ++ b) := by
  apply BA_ext
  rw [BA_data]
  simp [BA, ByteArray.data_append]
theorem son_BA (l : List Int) : strOfNums l = BA (l.map fun n => UInt8.ofNat n.toNat) := by
  simp [strOfNums, BA]

/-! ### showmac -/
open Go.Proofs.YtnnplkhjmdbmbaaDoor.Hex (dg hexL) in
def twoL (n : Nat) : List UInt8 := [dg (n / 16), dg (n % 16)]
def macL (a : Int) : List UInt8 := twoL (a / 1099511627776 % 256).toNat ++ [58] ++ twoL (a / 4294967296 % 256).toNat ++ [58] ++ twoL (a / 16777216 % 256).toNat ++ [58] ++ twoL (a / 65536 % 256).toNat ++ [58] ++ twoL (a / 256 % 256).toNat ++ [58] ++ twoL (a % 256).toNat
theorem isMac_f (a : Int) : impl_isMac.f a = some (decide (0 ≤ a ∧ a ≤ 281474976710655)) := by
  unfold impl_isMac.f
  by_cases h1 : a ≥ 0
  · rw [if_pos h1]; congr 1; rw [decide_eq_decide]; omega
  · rw [if_neg h1]; congr 1; rw [eq_comm, decide_eq_false_iff_not]; omega
theorem macOK_f (a : Int) : spec_l02MacOK.f a = some (decide (0 ≤ a ∧ a ≤ 281474976710655)) := by
  unfold spec_l02MacOK.f
  rw [in_f]
  rfl
theorem imac_step {k : Nat} {a i : Int} {n : Nat} {l : List ByteArray} (hi : 0 ≤ i ∧ i ≤ 64) (hl : l.length ≤ 100) (hn : n < 256) (e : Go.bits .and .i64 (shr .i64 a i) 255 = (n : Int)) : impl_ShowMac.l0 (k + 1) a l i = impl_ShowMac.l0 k a (l ++ [BA (twoL n)]) (i - 8) := by
  have hf : strconv_FormatInt.f (n : Int) 16 = some (BA (Go.Proofs.YtnnplkhjmdbmbaaDoor.Hex.hexL n)) := by
    unfold strconv_FormatInt.f
    rw [if_neg (by omega), if_pos (by omega), Int.toNat_natCast]
    rfl
  rw [impl_ShowMac.l0, if_pos hi.1, if_pos hi.1, e, hf, wr64 (by omega)]
  simp only [Option.bind_some]
  rw [BA_size]
  unfold Go.Proofs.YtnnplkhjmdbmbaaDoor.Hex.hexL twoL
  by_cases h : n < 16
  · rw [if_pos h, if_pos (by simp), if_pos (by simp), if_pos (by omega), show n / 16 = 0 from by omega, show n % 16 = n from by omega, show (⟨#[48]⟩ : ByteArray) = BA [48] from rfl, BA_app]
    rfl
  · rw [if_neg h, if_neg (by simp), if_pos (by omega)]
theorem dig_ex (i : Nat) (h : i < 16) : (⟨#[48, 49, 50, 51, 52, 53, 54, 55, 56, 57, 97, 98, 99, 100, 101, 102]⟩ : ByteArray).extract i (i + 1) = BA [Go.Proofs.YtnnplkhjmdbmbaaDoor.Hex.dg i] := by
  rcases (show i = 0 ∨ i = 1 ∨ i = 2 ∨ i = 3 ∨ i = 4 ∨ i = 5 ∨ i = 6 ∨ i = 7 ∨ i = 8 ∨ i = 9 ∨ i = 10 ∨ i = 11 ∨ i = 12 ∨ i = 13 ∨ i = 14 ∨ i = 15 by omega) with rfl | rfl | rfl | rfl | rfl | rfl | rfl | rfl | rfl | rfl | rfl | rfl | rfl | rfl | rfl | rfl <;> decide +kernel
theorem smac_step {k : Nat} {a i : Int} {n : Nat} {acc : List UInt8} (hi : 0 ≤ i ∧ i ≤ 5) (hl : acc.length ≤ 100) (hn : n < 256) (e : Go.bits .and .i64 (shr .i64 a (8 * i)) 255 = (n : Int)) : spec_ShowMac.l0 (k + 1) a (⟨#[48, 49, 50, 51, 52, 53, 54, 55, 56, 57, 97, 98, 99, 100, 101, 102]⟩ : ByteArray) (BA acc) i = spec_ShowMac.l0 k a (⟨#[48, 49, 50, 51, 52, 53, 54, 55, 56, 57, 97, 98, 99, 100, 101, 102]⟩ : ByteArray) (BA (acc ++ twoL n ++ (if i > 0 then [58] else []))) (i - 1) := by
  have hw : IntKind.u64.wrap (wrap64 (8 * i)) = 8 * i := by rw [wr64 (by omega), IntKind.wrap_u64]; omega
  have hsz : ((⟨#[48, 49, 50, 51, 52, 53, 54, 55, 56, 57, 97, 98, 99, 100, 101, 102]⟩ : ByteArray).size : Int) = 16 := rfl
  have d1 := dig_ex (n / 16) (by omega)
  have d2 := dig_ex (n % 16) (by omega)
  rw [spec_ShowMac.l0, hw, e, td_pos _ (by omega), tm_pos _ (by omega), wr64 (a := (n : Int) / 16) (by omega), wr64 (a := (n : Int) / 16 + 1) (by omega), wr64 (a := (n : Int) % 16 + 1) (by omega), wr64 (a := i - 1) (by omega)]
  rw [show ((n : Int) / 16).toNat = n / 16 from by omega, show ((n : Int) / 16 + 1).toNat = n / 16 + 1 from by omega, show ((n : Int) % 16).toNat = n % 16 from by omega, show ((n : Int) % 16 + 1).toNat = n % 16 + 1 from by omega, d1, d2, show (⟨#[58]⟩ : ByteArray) = BA [58] from rfl]
  simp only [BA_app, BA_size, List.length_append, List.length_cons, List.length_nil]
  rw [if_pos (by omega), if_pos (by omega), if_pos (by omega), if_pos (by omega), if_pos (by omega), if_pos (by omega), if_pos (by omega), if_pos (by omega), if_pos (by omega), if_pos (by omega)]
  unfold twoL
  by_cases h : i > 0
  · rw [if_pos h, if_pos h, if_pos (by omega)]
    simp
  · rw [if_neg h, if_neg h]
    simp
theorem bytev {a : Int} {j : Int} {m : Int} (hm : 0 < m) (e : shr .i64 a j = a / m) : Go.bits .and .i64 (shr .i64 a j) 255 = ((a / m % 256).toNat : Int) ∧ (a / m % 256).toNat < 256 := by
  rw [e, and_255]
  omega
theorem showM_impl {a : Int} (h : 0 ≤ a ∧ a ≤ 281474976710655) {k : Nat} (hk : 10 ≤ k) : impl_ShowMac.f k a = some (BA (macL a), 0) := by
  unfold impl_ShowMac.f
  rw [isMac_f, decide_eq_true h]
  simp only [Option.bind_some, if_true]
  obtain ⟨k, rfl⟩ : ∃ m, k = m + 1 + 1 + 1 + 1 + 1 + 1 + 1 := ⟨k - 7, by omega⟩
  have b5 := bytev (a := a) (j := 40) (m := 1099511627776) (by decide) rfl
  have b4 := bytev (a := a) (j := 32) (m := 4294967296) (by decide) rfl
  have b3 := bytev (a := a) (j := 24) (m := 16777216) (by decide) rfl
  have b2 := bytev (a := a) (j := 16) (m := 65536) (by decide) rfl
  have b1 := bytev (a := a) (j := 8) (m := 256) (by decide) rfl
  have b0 := bytev (a := a) (j := 0) (m := 1) (by decide) rfl
  rw [imac_step (by omega) (by simp) b5.2 b5.1, show (40 : Int) - 8 = 32 from rfl, imac_step (by omega) (by simp) b4.2 b4.1, show (32 : Int) - 8 = 24 from rfl, imac_step (by omega) (by simp) b3.2 b3.1, show (24 : Int) - 8 = 16 from rfl, imac_step (by omega) (by simp) b2.2 b2.1, show (16 : Int) - 8 = 8 from rfl, imac_step (by omega) (by simp) b1.2 b1.1, show (8 : Int) - 8 = 0 from rfl, imac_step (by omega) (by simp) b0.2 b0.1, impl_ShowMac.l0, if_neg (by omega)]
  rw [Int.ediv_one]
  unfold strings_Join.f
  have ej : ∀ p q r s t u : List UInt8, Lib.join (([] ++ [BA p] ++ [BA q] ++ [BA r] ++ [BA s] ++ [BA t] ++ [BA u]).map fun x : ByteArray => x.data.toList) (⟨#[58]⟩ : ByteArray).data.toList = p ++ [58] ++ q ++ [58] ++ r ++ [58] ++ s ++ [58] ++ t ++ [58] ++ u := by
    intro p q r s t u
    simp only [List.nil_append, List.cons_append, List.map_cons, List.map_nil, BA_data]
    unfold Lib.join
    simp [List.intercalate, List.intersperse]
  rw [ej, if_pos ⟨by simp, by unfold twoL; simp⟩]
  rfl
theorem showM_impl_none {a : Int} (h : ¬ (0 ≤ a ∧ a ≤ 281474976710655)) (k : Nat) : impl_ShowMac.f k a = some (⟨#[]⟩, 1) := by
  unfold impl_ShowMac.f
  rw [isMac_f, decide_eq_false h]
  rfl
theorem showM_spec {a : Int} (h : 0 ≤ a ∧ a ≤ 281474976710655) {k : Nat} (hk : 10 ≤ k) : spec_ShowMac.f k a = some (BA (macL a), 0) := by
  unfold spec_ShowMac.f
  rw [macOK_f, decide_eq_true h]
  simp only [Option.bind_some, if_true]
  obtain ⟨k, rfl⟩ : ∃ m, k = m + 1 + 1 + 1 + 1 + 1 + 1 + 1 := ⟨k - 7, by omega⟩
  have b5 := bytev (a := a) (j := 8 * 5) (m := 1099511627776) (by decide) rfl
  have b4 := bytev (a := a) (j := 8 * 4) (m := 4294967296) (by decide) rfl
  have b3 := bytev (a := a) (j := 8 * 3) (m := 16777216) (by decide) rfl
  have b2 := bytev (a := a) (j := 8 * 2) (m := 65536) (by decide) rfl
  have b1 := bytev (a := a) (j := 8 * 1) (m := 256) (by decide) rfl
  have b0 := bytev (a := a) (j := 8 * 0) (m := 1) (by decide) rfl
  rw [show (⟨#[]⟩ : ByteArray) = BA [] from rfl]
  rw [smac_step (by omega) (by simp) b5.2 b5.1, show (5 : Int) - 1 = 4 from rfl, smac_step (by omega) (by unfold twoL; simp) b4.2 b4.1, show (4 : Int) - 1 = 3 from rfl, smac_step (by omega) (by unfold twoL; simp) b3.2 b3.1, show (3 : Int) - 1 = 2 from rfl, smac_step (by omega) (by unfold twoL; simp) b2.2 b2.1, show (2 : Int) - 1 = 1 from rfl, smac_step (by omega) (by unfold twoL; simp) b1.2 b1.1, show (1 : Int) - 1 = 0 from rfl, smac_step (by omega) (by unfold twoL; simp) b0.2 b0.1, spec_ShowMac.l0, if_neg (by omega)]
  rw [Int.ediv_one]
  unfold macL
  simp
theorem showM_none {a : Int} (h : ¬ (0 ≤ a ∧ a ≤ 281474976710655)) (k : Nat) : spec_ShowMac.f k a = some (⟨#[]⟩, 1) := by
  unfold spec_ShowMac.f
  rw [macOK_f, decide_eq_false h]
  rfl

/-! ### the law -/
theorem FnExactShowMac : ∀ (a0 : Int), (Lit.int .i64 a0).wf = true → ∃ k, laws_FnExactShowMac.f k a0 = some true := by
  intro a _
  obtain ⟨k, hk⟩ : ∃ k, k = 10 := ⟨_, rfl⟩
  refine ⟨k, ?_⟩
  unfold laws_FnExactShowMac.f
  by_cases h : 0 ≤ a ∧ a ≤ 281474976710655
  · rw [showM_spec h (by omega), showM_impl h (by omega)]
    simp
  · rw [showM_none h, showM_impl_none h]
    simp

end Go.Proofs.YtnnplkhjmdbmbaaDoor.Pure
