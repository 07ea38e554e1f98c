/- The program's ShowRules answers as the reference's, for every list of rules, and leaves the list as it was; without conditions. -/
import Derived.Test.YtmgapmpmmkmdhaaDoorPFnExactShowRulesx9
set_option linter.unusedVariables false
set_option linter.unusedSimpArgs false
namespace Go.Proofs.YtmgapmpmmkmdhaaDoor.Pure
open Go.RowKit Go.Proofs.YtmgapmpmmkmdhaaDoor.PFnExactShowRules Go.Proofs.YtmgapmpmmkmdhaaDoorW.PrintWords Go.Proofs.YtmgapmpmmkmdhaaDoorW.PrintLast

/-! ### base -/
theorem wf64 {a : Int} (h : (Lit.int .i64 a).wf = true) : -9223372036854775808 ≤ a ∧ a ≤ 9223372036854775807 := by
  have h1 : IntKind.i64.min = -9223372036854775808 := by decide
  have h2 : IntKind.i64.max = 9223372036854775807 := by decide
  simp only [Lit.wf, Bool.and_eq_true, decide_eq_true_eq] at h
  omega
theorem tm_pos {a : Int} (n : Int) (h : 0 ≤ a) : Int.tmod a n = a % n := Int.tmod_eq_emod_of_nonneg h
theorem tm_neg {a : Int} (n : Int) (h : a ≤ 0) : Int.tmod a n = -((-a) % n) := by
  have := Int.neg_tmod (-a) n
  rw [Int.neg_neg] at this
  rw [this, Int.tmod_eq_emod_of_nonneg (by omega)]
theorem td_pos {a : Int} (n : Int) (h : 0 ≤ a) : Int.tdiv a n = a / n := Int.tdiv_eq_ediv_of_nonneg h
theorem wr64 {a : Int} (h : -9223372036854775808 ≤ a ∧ a ≤ 9223372036854775807) : wrap64 a = a := by
  unfold wrap64
  omega
theorem dec_eq {p : Prop} [Decidable p] {b : Bool} (h : b = true ↔ p) : some b = some (decide p) := by
  rw [Option.some.injEq, Bool.eq_iff_iff, decide_eq_true_eq]
  exact h
theorem ite_dec (p q : Prop) [Decidable p] [Decidable q] : (if p then some (decide q) else some false) = some (decide (p ∧ q)) := by
  by_cases h : p <;> simp [h]
theorem beq_dec (a b : Int) : (a == b) = decide (a = b) := by
  rw [Bool.eq_iff_iff]
  simp

/-! ### lists -/
theorem rd_at {xs : List Int} {i : Nat} (h : i < xs.length) : rd xs (i : Int) = xs[i] := by
  unfold rd
  rw [Int.toNat_natCast, List.getD_eq_getElem?_getD, List.getElem?_eq_getElem h]
  rfl
theorem wr_succ {i n : Nat} (h : i < n) (hn : n ≤ 281474976710656) : wrap64 ((i : Int) + 1) = ((i + 1 : Nat) : Int) := by
  rw [wr64 (by omega)]
  omega
theorem maxLen_le {n : Nat} (h : n ≤ 1048576) : n ≤ 281474976710656 := by omega

/-! ### addr0 -/
theorem in_f (a l h : Int) : spec_l01In.f a l h = some (decide (l ≤ a ∧ a ≤ h)) := by
  unfold spec_l01In.f
  by_cases h1 : a ≥ l
  · rw [if_pos h1]; congr 1; rw [decide_eq_decide]; omega
  · rw [if_neg h1]; congr 1; rw [eq_comm, decide_eq_false_iff_not]; omega

/-! ### addr -/
theorem addrOK_f (a : Int) : spec_l02AddrOK.f a = some (decide (0 ≤ a ∧ a ≤ 4294967295)) := by
  unfold spec_l02AddrOK.f
  rw [in_f]
  rfl
theorem isAddr_f (a : Int) : impl_isAddr.f a = some (decide (0 ≤ a ∧ a ≤ 4294967295)) := by
  unfold impl_isAddr.f
  by_cases h1 : a ≥ 0
  · rw [if_pos h1]; congr 1; rw [decide_eq_decide]; omega
  · rw [if_neg h1]; congr 1; rw [eq_comm, decide_eq_false_iff_not]; omega

/-! ### bits -/
theorem wraps_i64 (n : Int) (h₀ : 0 ≤ n) (h₁ : n < 2 ^ 63) : IntKind.i64.wrap n = n := by rw [IntKind.wrap_i64]; omega
/-- The low bits of any whole number. -/
theorem and_low (i : Nat) (hi : i ≤ 62) (x : Int) : Go.bits .and .i64 x (2 ^ i - 1) = x % 2 ^ i := by
  have hpos : 0 < 2 ^ i := Nat.two_pow_pos i
  have h62 : 2 ^ i ≤ 2 ^ 62 := Nat.pow_le_pow_right (by decide) hi
  have hc : ((2 : Int) ^ i - 1) = ((2 ^ i - 1 : Nat) : Int) := by
    rw [Int.natCast_sub hpos]; simp
  have hx0 : 0 ≤ x % 18446744073709551616 := Int.emod_nonneg _ (by decide)
  have hx : (BitVec.ofInt 64 x).toNat = (x % 18446744073709551616).toNat := by rw [BitVec.toNat_ofInt]; rfl
  have hd : ((2 : Int) ^ i) ∣ 18446744073709551616 := by
    rw [show (18446744073709551616 : Int) = 2 ^ 64 from rfl]
    exact ⟨2 ^ (64 - i), by rw [← Int.pow_add, show i + (64 - i) = 64 from by omega]⟩
  have h2 : ((x % 18446744073709551616).toNat % 2 ^ i : Nat) = (x % 2 ^ i).toNat := by
    apply Int.ofNat.inj
    have e1 : (((x % 18446744073709551616).toNat % 2 ^ i : Nat) : Int) = x % 2 ^ i := by
      rw [Int.natCast_emod, Int.toNat_of_nonneg hx0, Int.natCast_pow]
      exact Int.emod_emod_of_dvd _ hd
    have e2 : 0 ≤ x % 2 ^ i := Int.emod_nonneg _ (by have : (0 : Int) < 2 ^ i := Int.pow_pos (by decide); omega)
    exact e1.trans (Int.toNat_of_nonneg e2).symm
  have e2 : 0 ≤ x % 2 ^ i := Int.emod_nonneg _ (by have : (0 : Int) < 2 ^ i := Int.pow_pos (by decide); omega)
  have e3 : x % 2 ^ i < 2 ^ i := Int.emod_lt_of_pos _ (Int.pow_pos (by decide))
  have e4 : (2 : Int) ^ i ≤ 2 ^ 62 := by exact_mod_cast h62
  have key : Go.bits .and .i64 x (2 ^ i - 1) = IntKind.i64.wrap (((BitVec.ofInt 64 x).toNat &&& (BitVec.ofInt 64 ((2 ^ i - 1 : Nat) : Int)).toNat : Nat) : Int) := by
    rw [hc]
    show IntKind.i64.wrap ((BitVec.ofInt 64 x &&& BitVec.ofInt 64 ((2 ^ i - 1 : Nat) : Int)).toNat : Int) = _
    rw [BitVec.toNat_and]
  rw [key, hx]
  have hm : (BitVec.ofInt 64 ((2 ^ i - 1 : Nat) : Int)).toNat = 2 ^ i - 1 := by
    rw [BitVec.ofInt_natCast, BitVec.toNat_ofNat]
    exact Nat.mod_eq_of_lt (by omega)
  rw [hm, Nat.and_two_pow_sub_one_eq_mod, h2, Int.toNat_of_nonneg e2]
  exact wraps_i64 _ e2 (by omega)
theorem and_65535 (x : Int) : Go.bits .and .i64 x 65535 = x % 65536 := and_low 16 (by decide) x
theorem and_255 (x : Int) : Go.bits .and .i64 x 255 = x % 256 := and_low 8 (by decide) x
theorem nat_and_high (a n : Nat) (ha : a < 2 ^ 32) (hn : n ≤ 32) : a &&& ((2 ^ (32 - n) - 1) * 2 ^ n) = a / 2 ^ n * 2 ^ n := by
  apply Nat.eq_of_testBit_eq
  intro i
  rw [Nat.testBit_and, Nat.testBit_mul_two_pow, Nat.testBit_mul_two_pow, Nat.testBit_div_two_pow, Nat.testBit_two_pow_sub_one]
  by_cases h : n ≤ i
  · simp only [h, decide_true, Bool.true_and]
    rw [show i - n + n = i from by omega]
    by_cases h3 : i - n < 32 - n
    · simp [h3]
    · have : a.testBit i = false := Nat.testBit_lt_two_pow (Nat.lt_of_lt_of_le ha (Nat.pow_le_pow_right (by decide) (by omega)))
      simp [this]
  · simp [h]
theorem and_high (a : Int) (n : Nat) (h0 : 0 ≤ a) (h1 : a ≤ 4294967295) (hn : n ≤ 32) : Go.bits .and .i64 a ((2 ^ (32 - n) - 1) * 2 ^ n) = a / 2 ^ n * 2 ^ n := by
  obtain ⟨b, rfl⟩ := Int.eq_ofNat_of_zero_le h0
  have hc : (((2 : Int) ^ (32 - n) - 1) * 2 ^ n) = (((2 ^ (32 - n) - 1) * 2 ^ n : Nat) : Int) := by
    rw [Int.natCast_mul, Int.natCast_sub (Nat.two_pow_pos _)]; simp
  have hl : (2 ^ (32 - n) - 1) * 2 ^ n ≤ 4294967295 := by
    rw [Nat.sub_mul, ← Nat.pow_add, show 32 - n + n = 32 from by omega]
    have := Nat.two_pow_pos n
    omega
  rw [hc, (bits_nat .i64 63 (by decide) wraps_i64 b _ (by omega) (by omega)).1, nat_and_high b n (by omega) hn]
  simp

/-! ### prefix -/
theorem bits33 {b : Int} (h : 0 ≤ b ∧ b ≤ 32) : b = 0 ∨ b = 1 ∨ b = 2 ∨ b = 3 ∨ b = 4 ∨ b = 5 ∨ b = 6 ∨ b = 7 ∨ b = 8 ∨ b = 9 ∨ b = 10 ∨ b = 11 ∨ b = 12 ∨ b = 13 ∨ b = 14 ∨ b = 15 ∨ b = 16 ∨ b = 17 ∨ b = 18 ∨ b = 19 ∨ b = 20 ∨ b = 21 ∨ b = 22 ∨ b = 23 ∨ b = 24 ∨ b = 25 ∨ b = 26 ∨ b = 27 ∨ b = 28 ∨ b = 29 ∨ b = 30 ∨ b = 31 ∨ b = 32 := by omega
/-- How many addresses a prefix of so many bits has. -/
def sz (b : Int) : Int := 2 ^ (32 - b).toNat
theorem sz_pos (b : Int) : 0 < sz b := Int.pow_pos (by decide)
theorem sz_le {b : Int} (h : 0 ≤ b ∧ b ≤ 32) : sz b ≤ 4294967296 := by
  rcases bits33 h with rfl | rfl | rfl | rfl | rfl | rfl | rfl | rfl | rfl | rfl | rfl | rfl | rfl | rfl | rfl | rfl | rfl | rfl | rfl | rfl | rfl | rfl | rfl | rfl | rfl | rfl | rfl | rfl | rfl | rfl | rfl | rfl | rfl <;> decide
theorem size_f {b : Int} (h : 0 ≤ b ∧ b ≤ 32) {k : Nat} (hk : 40 ≤ k) : spec_l02Size.f k b = some (sz b) := by
  have h0 : spec_l02Size.f 40 b = some (sz b) := by
    rcases bits33 h with rfl | rfl | rfl | rfl | rfl | rfl | rfl | rfl | rfl | rfl | rfl | rfl | rfl | rfl | rfl | rfl | rfl | rfl | rfl | rfl | rfl | rfl | rfl | rfl | rfl | rfl | rfl | rfl | rfl | rfl | rfl | rfl | rfl <;> decide +kernel
  exact at_rounds (fun k => spec_l02Size.mono b k) hk h0
theorem mask_f {b : Int} (h : 0 ≤ b ∧ b ≤ 32) : impl_mask.f b = some ((2 ^ (32 - (32 - b).toNat) - 1) * 2 ^ (32 - b).toNat) := by
  rcases bits33 h with rfl | rfl | rfl | rfl | rfl | rfl | rfl | rfl | rfl | rfl | rfl | rfl | rfl | rfl | rfl | rfl | rfl | rfl | rfl | rfl | rfl | rfl | rfl | rfl | rfl | rfl | rfl | rfl | rfl | rfl | rfl | rfl | rfl <;> decide +kernel
theorem and_mask {a b : Int} (h : 0 ≤ b ∧ b ≤ 32) (ha : 0 ≤ a ∧ a ≤ 4294967295) : Go.bits .and .i64 a ((2 ^ (32 - (32 - b).toNat) - 1) * 2 ^ (32 - b).toNat) = a / sz b * sz b :=
  and_high a _ ha.1 ha.2 (by omega)
/-- A prefix is valid. -/
def okP (a b : Int) : Prop := (0 ≤ a ∧ a ≤ 4294967295) ∧ (0 ≤ b ∧ b ≤ 32) ∧ a % sz b = 0
instance (a b : Int) : Decidable (okP a b) := by unfold okP; exact inferInstance
theorem div_back {a s : Int} (hs : 0 < s) : (a / s * s = a) ↔ a % s = 0 := by
  have := Int.mul_ediv_add_emod a s
  rw [Int.mul_comm] at this
  omega
theorem specOK_f (a b : Int) {k : Nat} (hk : 40 ≤ k) : spec_l02PrefixOK.f k a b = some (decide (okP a b)) := by
  unfold spec_l02PrefixOK.f okP
  rw [addrOK_f, in_f]
  simp only [Option.bind_some]
  by_cases ha : 0 ≤ a ∧ a ≤ 4294967295
  · by_cases hb : 0 ≤ b ∧ b ≤ 32
    · rw [size_f hb hk]
      have := sz_pos b
      simp only [ha, hb, and_self, decide_true, if_true, Option.bind_some, true_and]
      rw [if_neg (by omega), tm_pos _ ha.1]
      congr 1
    · simp [ha, hb]
  · simp [ha]
theorem implOK_f (a b : Int) : impl_okPrefix.f a b = some (decide (okP a b)) := by
  unfold impl_okPrefix.f okP
  rw [isAddr_f]
  simp only [Option.bind_some]
  by_cases ha : 0 ≤ a ∧ a ≤ 4294967295
  · by_cases hb : 0 ≤ b ∧ b ≤ 32
    · rw [mask_f hb]
      have hs := sz_pos b
      simp only [ha, and_self, decide_true, if_true, Option.bind_some, true_and]
      rw [if_pos (by omega), if_pos (by omega), and_mask hb ha]
      simp only [hb, and_self, true_and]
      congr 1
      have := div_back (a := a) hs
      rw [Bool.eq_iff_iff]
      simp only [beq_iff_eq, decide_eq_true_eq]
      exact this
    · simp only [ha, hb, and_self, decide_true, if_true, false_and, and_false, decide_false]
      by_cases h1 : b ≥ 0
      · rw [if_pos h1, if_neg (by omega)]
      · rw [if_neg h1]
  · simp [ha]

/-! ### txt -/
def BA (l : List UInt8) : ByteArray := ⟨l.toArray⟩
theorem BA_data (l : List UInt8) : (BA l).data.toList = l := by simp [BA]
theorem BA_size (l : List UInt8) : (BA l).size = l.length := by simp [BA, ByteArray.size]
theorem BA_ext {a b : ByteArray} (h : a.data.toList = b.data.toList) : a = b := by
  obtain ⟨⟨a⟩⟩ := a
  obtain ⟨⟨b⟩⟩ := b
  simp at h
  rw [h]
theorem BA_of (s : ByteArray) : BA s.data.toList = s := BA_ext (BA_data _)
theorem BA_app (a b : List UInt8) : BA a ++ BA b = BA (a ++ b) := by
  apply BA_ext
  rw [BA_data]
  simp [BA, ByteArray.data_append]
theorem son_BA (l : List Int) : strOfNums l = BA (l.map fun n => UInt8.ofNat n.toNat) := by
  simp [strOfNums, BA]

/-! ### decf -/
theorem dec_f (n : Nat) : ∀ (k : Nat), n < k → n ≤ 100000000 → spec_l02Dec.f k (n : Int) = some (BA (Lib.decDigits n)) ∧ (Lib.decDigits n).length ≤ n + 1 := by
  induction n using Nat.strongRecOn with
  | _ n ih =>
    intro k hk hn
    obtain ⟨k, rfl⟩ : ∃ m, k = m + 1 := ⟨k - 1, by omega⟩
    by_cases h : n < 10
    · rw [spec_l02Dec.f, if_pos (by omega), Lib.decDigits_one h, wr64 (by omega), son_BA]
      refine ⟨?_, by simp⟩
      simp only [List.map_cons, List.map_nil]
      rw [show ((48 + (n : Int)) % 256).toNat = 48 + n from by omega]
    · obtain ⟨e, hl⟩ := ih (n / 10) (by omega) k (by omega) (by omega)
      have e2 : wrap64 (Int.tdiv (n : Int) 10) = ((n / 10 : Nat) : Int) := by rw [td_pos _ (by omega), wr64 (by omega)]; omega
      rw [spec_l02Dec.f, if_neg (by omega), e2, e, tm_pos _ (by omega), wr64 (a := 48 + (n : Int) % 10) (by omega), show Lib.decDigits n = Lib.decDigits (n / 10) ++ [UInt8.ofNat (48 + n % 10)] from by rw [Lib.decDigits, dif_neg h]]
      simp only [Option.bind_some]
      rw [son_BA, BA_size, BA_size, if_pos (by simp; omega), BA_app]
      simp only [List.map_cons, List.map_nil]
      rw [show ((48 + (n : Int) % 10) % 256).toNat = 48 + n % 10 from by omega]
      refine ⟨rfl, ?_⟩
      simp
      omega
theorem dec_i {a : Int} {k : Nat} (h : 0 ≤ a ∧ a < k ∧ a ≤ 100000000) : spec_l02Dec.f k a = some (BA (Lib.decDigits a.toNat)) := by
  obtain ⟨n, rfl⟩ := Int.eq_ofNat_of_zero_le h.1
  exact (dec_f n k (by omega) (by omega)).1
theorem dec_len {a : Nat} (h : a ≤ 100000000) : (Lib.decDigits a).length ≤ a + 1 := (dec_f a (a + 1) (by omega) h).2

/-! ### fmtint -/
theorem fmt_f {a : Int} (h : 0 ≤ a ∧ a ≤ 9223372036854775807) : strconv_FormatInt.f a 10 = some (BA (Lib.decDigits a.toNat)) := by
  obtain ⟨n, rfl⟩ := Int.eq_ofNat_of_zero_le h.1
  unfold strconv_FormatInt.f
  rw [if_pos (by omega), Lib.itoa_nonneg]
  rfl

/-! ### showaddr -/
/-- An address as a text. -/
def addrL (a : Int) : List UInt8 := Lib.decDigits (a / 16777216).toNat ++ [46] ++ Lib.decDigits (a / 65536 % 256).toNat ++ [46] ++ Lib.decDigits (a / 256 % 256).toNat ++ [46] ++ Lib.decDigits (a % 256).toNat
theorem showA_spec {a : Int} (h : 0 ≤ a ∧ a ≤ 4294967295) {k : Nat} (hk : 300 ≤ k) : spec_ShowAddr.f k a = some (BA (addrL a), 0) := by
  unfold spec_ShowAddr.f
  have l1 := dec_len (a := (a / 16777216).toNat) (by omega)
  have l2 := dec_len (a := (a / 65536 % 256).toNat) (by omega)
  have l3 := dec_len (a := (a / 256 % 256).toNat) (by omega)
  have l4 := dec_len (a := (a % 256).toNat) (by omega)
  rw [addrOK_f, decide_eq_true h, and_255, and_255, and_255, dec_i (a := a / 16777216) (by omega), dec_i (a := a / 65536 % 256) (by omega), dec_i (a := a / 256 % 256) (by omega), dec_i (a := a % 256) (by omega), show (⟨#[46]⟩ : ByteArray) = BA [46] from rfl]
  simp only [Option.bind_some, if_true, BA_app, BA_size, List.length_append, List.length_cons, List.length_nil]
  rw [if_pos (by omega), if_pos (by omega), if_pos (by omega), if_pos (by omega), if_pos (by omega), if_pos (by omega)]
  rfl
theorem showA_none {a : Int} (h : ¬ (0 ≤ a ∧ a ≤ 4294967295)) (k : Nat) : spec_ShowAddr.f k a = some (⟨#[]⟩, 1) := by
  unfold spec_ShowAddr.f
  rw [addrOK_f, decide_eq_false h]
  rfl
theorem shr_24 (a : Int) : shr .i64 a 24 = a / 16777216 := rfl
theorem shr_16 (a : Int) : shr .i64 a 16 = a / 65536 := rfl
theorem shr_8 (a : Int) : shr .i64 a 8 = a / 256 := rfl
theorem shr_0 (a : Int) : shr .i64 a 0 = a / 1 := rfl
theorem showA_loop {k : Nat} {a i : Int} {l : List ByteArray} {s : ByteArray} (h : 0 ≤ i ∧ i ≤ 64) (hl : l.length ≤ 100) (e : strconv_FormatInt.f (Go.bits .and .i64 (shr .i64 a i) 255) 10 = some s) : impl_ShowAddr.l0 (k + 1) a l i = impl_ShowAddr.l0 k a (l ++ [s]) (i - 8) := by
  rw [impl_ShowAddr.l0, if_pos h.1, if_pos h.1, e]
  simp only [Option.bind_some]
  rw [if_pos (by omega), wr64 (by omega)]
theorem showA_impl {a : Int} (h : 0 ≤ a ∧ a ≤ 4294967295) {k : Nat} (hk : 300 ≤ k) : impl_ShowAddr.f k a = some (BA (addrL a), 0) := by
  unfold impl_ShowAddr.f
  have l1 := dec_len (a := (a / 16777216).toNat) (by omega)
  have l2 := dec_len (a := (a / 65536 % 256).toNat) (by omega)
  have l3 := dec_len (a := (a / 256 % 256).toNat) (by omega)
  have l4 := dec_len (a := (a % 256).toNat) (by omega)
  rw [isAddr_f, decide_eq_true h]
  simp only [Option.bind_some, if_true]
  obtain ⟨k, rfl⟩ : ∃ m, k = m + 1 + 1 + 1 + 1 + 1 := ⟨k - 5, by omega⟩
  have f1 : strconv_FormatInt.f (Go.bits .and .i64 (shr .i64 a 24) 255) 10 = some (BA (Lib.decDigits (a / 16777216).toNat)) := by
    rw [shr_24, and_255, fmt_f (by omega), show a / 16777216 % 256 = a / 16777216 from by omega]
  have f2 : strconv_FormatInt.f (Go.bits .and .i64 (shr .i64 a 16) 255) 10 = some (BA (Lib.decDigits (a / 65536 % 256).toNat)) := by
    rw [shr_16, and_255, fmt_f (by omega)]
  have f3 : strconv_FormatInt.f (Go.bits .and .i64 (shr .i64 a 8) 255) 10 = some (BA (Lib.decDigits (a / 256 % 256).toNat)) := by
    rw [shr_8, and_255, fmt_f (by omega)]
  have f4 : strconv_FormatInt.f (Go.bits .and .i64 (shr .i64 a 0) 255) 10 = some (BA (Lib.decDigits (a % 256).toNat)) := by
    rw [shr_0, and_255, fmt_f (by omega), Int.ediv_one]
  rw [showA_loop (by omega) (by simp) f1, show (24 : Int) - 8 = 16 from rfl, showA_loop (by omega) (by simp) f2, show (16 : Int) - 8 = 8 from rfl, showA_loop (by omega) (by simp) f3, show (8 : Int) - 8 = 0 from rfl, showA_loop (by omega) (by simp) f4, impl_ShowAddr.l0, if_neg (by omega)]
  unfold strings_Join.f
  have ej : Lib.join ((([] ++ [BA (Lib.decDigits (a / 16777216).toNat)] ++ [BA (Lib.decDigits (a / 65536 % 256).toNat)] ++ [BA (Lib.decDigits (a / 256 % 256).toNat)] ++ [BA (Lib.decDigits (a % 256).toNat)]).map fun x : ByteArray => x.data.toList)) (⟨#[46]⟩ : ByteArray).data.toList = addrL a := by
    simp only [List.nil_append, List.cons_append, List.map_cons, List.map_nil, BA_data]
    unfold Lib.join addrL
    simp [List.intercalate, List.intersperse]
  rw [ej, if_pos ⟨by simp, by unfold addrL; simp only [List.length_append, List.length_cons, List.length_nil]; omega⟩]
  rfl
theorem showA_impl_none {a : Int} (h : ¬ (0 ≤ a ∧ a ≤ 4294967295)) (k : Nat) : impl_ShowAddr.f k a = some (⟨#[]⟩, 1) := by
  unfold impl_ShowAddr.f
  rw [isAddr_f, decide_eq_false h]
  rfl

/-! ### showprefix -/
/-- A prefix as a text. -/
def prefixL (a b : Int) : List UInt8 := addrL a ++ [47] ++ Lib.decDigits b.toNat
theorem addrL_len {a : Int} (h : 0 ≤ a ∧ a ≤ 4294967295) : (addrL a).length ≤ 1100 := by
  have l1 := dec_len (a := (a / 16777216).toNat) (by omega)
  have l2 := dec_len (a := (a / 65536 % 256).toNat) (by omega)
  have l3 := dec_len (a := (a / 256 % 256).toNat) (by omega)
  have l4 := dec_len (a := (a % 256).toNat) (by omega)
  unfold addrL
  simp only [List.length_append, List.length_cons, List.length_nil]
  omega
theorem showP_spec {a b : Int} (h : okP a b) {k : Nat} (hk : 300 ≤ k) : spec_ShowPrefix.f k a b = some (BA (prefixL a b), 0) := by
  unfold spec_ShowPrefix.f
  have l1 := addrL_len h.1
  have hb := h.2.1
  have l2 := dec_len (a := b.toNat) (by omega)
  rw [specOK_f _ _ (by omega), decide_eq_true h, showA_spec h.1 hk, dec_i (a := b) (by omega), show (⟨#[47]⟩ : ByteArray) = BA [47] from rfl]
  simp only [Option.bind_some, if_true, BA_app, BA_size, List.length_append, List.length_cons, List.length_nil]
  rw [if_pos (by omega), if_pos (by omega)]
  rfl
theorem showP_none {a b : Int} (h : ¬ okP a b) {k : Nat} (hk : 300 ≤ k) : spec_ShowPrefix.f k a b = some (⟨#[]⟩, 1) := by
  unfold spec_ShowPrefix.f
  rw [specOK_f _ _ (by omega), decide_eq_false h]
  rfl
theorem showP_impl {a b : Int} (h : okP a b) {k : Nat} (hk : 300 ≤ k) : impl_ShowPrefix.f k a b = some (BA (prefixL a b), 0) := by
  unfold impl_ShowPrefix.f
  have l1 := addrL_len h.1
  have hb := h.2.1
  have l2 := dec_len (a := b.toNat) (by omega)
  rw [implOK_f, decide_eq_true h, showA_impl h.1 hk, fmt_f (a := b) (by omega), show (⟨#[47]⟩ : ByteArray) = BA [47] from rfl]
  simp only [Option.bind_some, if_true, BA_app, BA_size, List.length_append, List.length_cons, List.length_nil]
  rw [if_pos (by omega), if_pos (by omega)]
  rfl
theorem showP_impl_none {a b : Int} (h : ¬ okP a b) {k : Nat} (hk : 300 ≤ k) : impl_ShowPrefix.f k a b = some (⟨#[]⟩, 1) := by
  unfold impl_ShowPrefix.f
  rw [implOK_f, decide_eq_false h]
  rfl

/-! ### rules -/
def port (a : Int) : Prop := 0 ≤ a ∧ a ≤ 65535
instance (a : Int) : Decidable (port a) := by unfold port; exact inferInstance
def anyL : List UInt8 := [97, 110, 121]
/-- One side of a rule as a text. -/
def sideL (x y lo hi : Int) : List UInt8 := (if y = 0 then anyL else prefixL x y) ++ (if lo = 0 ∧ hi = 65535 then [] else [32, 112, 111, 114, 116, 32] ++ Lib.decDigits lo.toNat ++ (if lo = hi then [] else [45] ++ Lib.decDigits hi.toNat))
theorem prefixL_len {a b : Int} (h : okP a b) : (prefixL a b).length ≤ 1200 := by
  have l1 := addrL_len h.1
  have hb := h.2.1
  have l2 := dec_len (a := b.toNat) (by omega)
  unfold prefixL
  simp only [List.length_append, List.length_cons, List.length_nil]
  omega
theorem port_len {a : Int} (h : port a) : (Lib.decDigits a.toNat).length ≤ 65536 := by
  have := dec_len (a := a.toNat) (by unfold port at h; omega)
  unfold port at h
  omega
theorem sideL_len {x y lo hi : Int} (h : okP x y) (h1 : port lo) (h2 : port hi) : (sideL x y lo hi).length ≤ 140000 := by
  have l1 := prefixL_len h
  have l2 := port_len h1
  have l3 := port_len h2
  unfold sideL anyL
  repeat' split
  all_goals (simp only [List.length_append, List.length_cons, List.length_nil]; omega)
theorem okP_zero {x : Int} (h : okP x 0) : x = 0 := by
  obtain ⟨h1, _, h3⟩ := h
  have : sz 0 = 4294967296 := by decide
  rw [this] at h3
  omega
theorem sideS {x y lo hi : Int} (h : okP x y) (h1 : port lo) (h2 : port hi) {k : Nat} (hk : 65600 ≤ k) : spec_l09ShowSide.f k x y lo hi = some (BA (sideL x y lo hi)) := by
  have l1 := prefixL_len h
  have l2 := port_len h1
  have l3 := port_len h2
  have hy := h.2.1
  unfold port at h1 h2
  unfold spec_l09ShowSide.f spec_l09AllPorts.f sideL
  rw [showP_spec h (by omega), dec_i (a := lo) (by omega), dec_i (a := hi) (by omega), show (⟨#[32, 112, 111, 114, 116, 32]⟩ : ByteArray) = BA [32, 112, 111, 114, 116, 32] from rfl, show (⟨#[45]⟩ : ByteArray) = BA [45] from rfl, show (⟨#[97, 110, 121]⟩ : ByteArray) = BA anyL from rfl]
  have la : anyL.length = 3 := rfl
  by_cases c : lo = 0
  · by_cases d : hi = 65535
    · by_cases e : y > 0
      · rw [if_pos e, if_neg (show ¬ y = 0 by omega)]
        simp [c, d]
      · rw [if_neg e, if_pos (show y = 0 by omega)]
        simp [c, d]
    · by_cases e : y > 0
      · rw [if_pos e, if_neg (show ¬ y = 0 by omega)]
        by_cases g : lo = hi
        · simp only [d, if_pos c, if_pos g, if_false, Option.bind_some, BA_app, BA_size, List.length_append, List.length_cons, List.length_nil, and_false, beq_iff_eq]
          rw [if_pos (by omega), if_pos (by omega)]
          simp
        · simp only [d, if_pos c, if_neg g, if_false, Option.bind_some, BA_app, BA_size, List.length_append, List.length_cons, List.length_nil, and_false, beq_iff_eq]
          rw [if_pos (by omega), if_pos (by omega), if_pos (by omega), if_pos (by omega)]
          simp
      · rw [if_neg e, if_pos (show y = 0 by omega)]
        by_cases g : lo = hi
        · simp only [d, if_pos c, if_pos g, if_false, Option.bind_some, BA_app, BA_size, List.length_append, List.length_cons, List.length_nil, and_false, beq_iff_eq]
          rw [if_pos (by omega), if_pos (by omega)]
          simp
        · simp only [d, if_pos c, if_neg g, if_false, Option.bind_some, BA_app, BA_size, List.length_append, List.length_cons, List.length_nil, and_false, beq_iff_eq]
          rw [if_pos (by omega), if_pos (by omega), if_pos (by omega), if_pos (by omega)]
          simp
  · by_cases e : y > 0
    · rw [if_pos e, if_neg (show ¬ y = 0 by omega)]
      by_cases g : lo = hi
      · simp only [if_neg c, if_pos g, if_false, Option.bind_some, BA_app, BA_size, List.length_append, List.length_cons, List.length_nil, Bool.false_eq_true]
        rw [if_pos (by omega), if_pos (by omega), if_neg (by omega)]
        simp
      · simp only [if_neg c, if_neg g, if_false, Option.bind_some, BA_app, BA_size, List.length_append, List.length_cons, List.length_nil, Bool.false_eq_true]
        rw [if_pos (by omega), if_pos (by omega), if_pos (by omega), if_pos (by omega), if_neg (by omega)]
        simp
    · rw [if_neg e, if_pos (show y = 0 by omega)]
      by_cases g : lo = hi
      · simp only [if_neg c, if_pos g, if_false, Option.bind_some, BA_app, BA_size, List.length_append, List.length_cons, List.length_nil, Bool.false_eq_true]
        rw [if_pos (by omega), if_pos (by omega), if_neg (by omega)]
        simp
      · simp only [if_neg c, if_neg g, if_false, Option.bind_some, BA_app, BA_size, List.length_append, List.length_cons, List.length_nil, Bool.false_eq_true]
        rw [if_pos (by omega), if_pos (by omega), if_pos (by omega), if_pos (by omega), if_neg (by omega)]
        simp
theorem sideI {x y lo hi : Int} (h : okP x y) (h1 : port lo) (h2 : port hi) (wl : List UInt8) (hw : wl.length ≤ 100) {k : Nat} (hk : 300 ≤ k) : impl_showSide.f k (BA wl) x y lo hi = some (BA ([32] ++ wl ++ [32] ++ sideL x y lo hi)) := by
  have l1 := prefixL_len h
  have l2 := port_len h1
  have l3 := port_len h2
  have hy := h.2.1
  unfold port at h1 h2
  unfold impl_showSide.f sideL
  rw [showP_impl h hk, fmt_f (a := lo) (by omega), fmt_f (a := hi) (by omega), show (⟨#[32, 112, 111, 114, 116, 32]⟩ : ByteArray) = BA [32, 112, 111, 114, 116, 32] from rfl, show (⟨#[45]⟩ : ByteArray) = BA [45] from rfl, show (⟨#[32]⟩ : ByteArray) = BA [32] from rfl, show (⟨#[32, 97, 110, 121]⟩ : ByteArray) = BA ([32] ++ anyL) from rfl, BA_size, if_pos hw]
  have hp : (x = 0 ∧ y = 0) ↔ y = 0 := ⟨fun z => z.2, fun z => ⟨by subst z; exact okP_zero h, z⟩⟩
  have e0 : ((if x = 0 ∧ y = 0 then some ((BA [32] ++ BA wl) ++ BA ([32] ++ anyL)) else (some (BA (prefixL x y), (0 : Int))).bind fun t => if t.1.size ≤ 1000000 then some (((BA [32] ++ BA wl) ++ BA [32]) ++ t.1) else none) : Option ByteArray) = some (BA ([32] ++ wl ++ [32] ++ (if y = 0 then anyL else prefixL x y))) := by
    by_cases c : y = 0
    · rw [if_pos (hp.2 c), if_pos c, BA_app, BA_app]
      simp
    · rw [if_neg (fun z => c (hp.1 z)), if_neg c, Option.bind_some, BA_size, if_pos (by omega), BA_app, BA_app, BA_app]
  rw [e0, Option.bind_some]
  by_cases c : lo = 0 ∧ hi = 65535
  · rw [if_pos c, if_pos c, List.append_nil]
  · rw [if_neg c, if_neg c, Option.bind_some, Option.bind_some, BA_size, BA_size, if_pos (by omega)]
    by_cases g : hi = lo
    · rw [if_pos g, if_pos g.symm, BA_app, BA_app]
      simp
    · rw [if_neg g, if_neg (show ¬ lo = hi from fun z => g z.symm), if_pos (by omega), BA_app, BA_app, BA_app, BA_app]
      simp
/-- A rule is valid. -/
def okRu (r : S33) : Bool := decide ((1 ≤ r.f0 ∧ r.f0 ≤ 3 ∧ 1 ≤ r.f1 ∧ r.f1 ≤ 3 ∧ 0 ≤ r.f9 ∧ r.f9 ≤ 4) ∧ (r.f2 = 0 ∨ r.f2 = 1 ∨ r.f2 = 6 ∨ r.f2 = 17)) && decide (okP r.f3.f0 r.f3.f1) && decide (okP r.f6.f0 r.f6.f1) && decide (port r.f4) && decide (port r.f5) && decide (port r.f7) && decide (port r.f8) && decide (r.f4 ≤ r.f5) && decide (r.f7 ≤ r.f8) && okTail r.f2 r.f4 r.f5 r.f7 r.f8
theorem port_i (a : Int) : impl_isPort.f a = some (decide (port a)) := by
  unfold impl_isPort.f
  by_cases h : a ≥ 0
  · rw [if_pos h]; congr 1; exact decide_eq_decide.2 (by unfold port; omega)
  · rw [if_neg h]; congr 1; exact (decide_eq_false (by unfold port; omega)).symm
theorem port_s (a : Int) : spec_l10PortOK.f a = some (decide (port a)) := by
  unfold spec_l10PortOK.f
  rw [in_f]
  rfl
theorem ruI (r : S33) (k : Nat) : impl_okRule.f k r.f0 r.f1 r.f2 r.f3.f0 r.f3.f1 r.f4 r.f5 r.f6.f0 r.f6.f1 r.f7 r.f8 r.f9 = some (okRu r) := by
  unfold impl_okRule.f okRu
  rw [implOK_f, implOK_f, port_i, port_i, port_i, port_i]
  by_cases h0 : (1 ≤ r.f0 ∧ r.f0 ≤ 3 ∧ 1 ≤ r.f1 ∧ r.f1 ≤ 3 ∧ 0 ≤ r.f9 ∧ r.f9 ≤ 4) ∧ (r.f2 = 0 ∨ r.f2 = 1 ∨ r.f2 = 6 ∨ r.f2 = 17)
  · rw [if_pos h0, decide_eq_true h0]
    simp only [Option.bind_some, decide_eq_true_eq, Bool.true_and]
    by_cases a1 : okP r.f3.f0 r.f3.f1
    · by_cases a2 : okP r.f6.f0 r.f6.f1
      · by_cases a3 : port r.f4
        · by_cases a4 : port r.f5
          · by_cases a5 : port r.f7
            · by_cases a6 : port r.f8
              · by_cases a7 : r.f4 ≤ r.f5
                · by_cases a8 : r.f7 ≤ r.f8
                  · simp [a1, a2, a3, a4, a5, a6, a7, a8]
                  · simp [a1, a2, a3, a4, a5, a6, a7, a8]
                · simp [a1, a2, a3, a4, a5, a6, a7]
              · simp [a1, a2, a3, a4, a5, a6]
            · simp [a1, a2, a3, a4, a5]
          · simp [a1, a2, a3, a4]
        · simp [a1, a2, a3]
      · simp [a1, a2]
    · simp [a1]
  · rw [if_neg h0, decide_eq_false h0]
    rfl
theorem ports_s (a b : Int) : spec_l09PortsOK.f a b = some (decide (port a) && decide (port b) && decide (a ≤ b)) := by
  unfold spec_l09PortsOK.f
  rw [port_s, port_s]
  by_cases h1 : port a <;> by_cases h2 : port b <;> simp [h1, h2]
theorem ruS_j (r : S33) (v : Bool) {k : Nat} (hk : 1 ≤ k) : spec_l09OK.j0 k v r.f0 r.f1 r.f2 r.f3.f0 r.f3.f1 r.f4 r.f5 r.f6.f0 r.f6.f1 r.f7 r.f8 r.f9 = some (!v && decide (r.f2 = 0 ∨ r.f2 = 1 ∨ r.f2 = 6 ∨ r.f2 = 17) && okTail r.f2 r.f4 r.f5 r.f7 r.f8) := by
  obtain ⟨k, rfl⟩ : ∃ m, k = m + 1 := ⟨k - 1, by omega⟩
  unfold spec_l09OK.j0 okTail spec_l09AllPorts.f
  cases v with
  | true => simp
  | false =>
    by_cases h1 : r.f2 = 6
    · simp [h1]
    · by_cases h2 : r.f2 = 17
      · simp [h2]
      · by_cases h3 : r.f2 = 0
        · by_cases a1 : r.f4 = 0 <;> by_cases a2 : r.f5 = 65535 <;> by_cases a3 : r.f7 = 0 <;> simp [h3, a1, a2, a3]
        · by_cases h4 : r.f2 = 1
          · by_cases a1 : r.f4 = 0 <;> by_cases a2 : r.f5 = 65535 <;> by_cases a3 : r.f7 = 0 <;> simp [h4, a1, a2, a3]
          · simp [h1, h2, h3, h4]
theorem ruS (r : S33) {k : Nat} (hk : 40 ≤ k) : spec_l09OK.f k r.f0 r.f1 r.f2 r.f3.f0 r.f3.f1 r.f4 r.f5 r.f6.f0 r.f6.f1 r.f7 r.f8 r.f9 = some (okRu r) := by
  unfold spec_l09OK.f
  rw [in_f, in_f, in_f, specOK_f _ _ hk, specOK_f _ _ hk, ports_s, ports_s]
  simp only [Option.bind_some, ruS_j r _ (show 1 ≤ k by omega)]
  unfold okRu
  by_cases b0 : 1 ≤ r.f0 ∧ r.f0 ≤ 3
  · by_cases b1 : 1 ≤ r.f1 ∧ r.f1 ≤ 3
    · by_cases b2 : 0 ≤ r.f9 ∧ r.f9 ≤ 4
      · have e : decide ((1 ≤ r.f0 ∧ r.f0 ≤ 3 ∧ 1 ≤ r.f1 ∧ r.f1 ≤ 3 ∧ 0 ≤ r.f9 ∧ r.f9 ≤ 4) ∧ (r.f2 = 0 ∨ r.f2 = 1 ∨ r.f2 = 6 ∨ r.f2 = 17)) = decide (r.f2 = 0 ∨ r.f2 = 1 ∨ r.f2 = 6 ∨ r.f2 = 17) := by
          rw [decide_eq_decide]
          exact ⟨fun z => z.2, fun z => ⟨⟨b0.1, b0.2, b1.1, b1.2, b2.1, b2.2⟩, z⟩⟩
        rw [e, decide_eq_true b0, decide_eq_true b1, decide_eq_true b2]
        generalize okTail r.f2 r.f4 r.f5 r.f7 r.f8 = T
        generalize decide (r.f2 = 0 ∨ r.f2 = 1 ∨ r.f2 = 6 ∨ r.f2 = 17) = p
        generalize decide (okP r.f3.f0 r.f3.f1) = q1
        generalize decide (okP r.f6.f0 r.f6.f1) = q2
        generalize decide (port r.f4) = p1
        generalize decide (port r.f5) = p2
        generalize decide (port r.f7) = p3
        generalize decide (port r.f8) = p4
        generalize decide (r.f4 ≤ r.f5) = d1
        generalize decide (r.f7 ≤ r.f8) = d2
        cases q1 <;> cases q2 <;> cases p1 <;> cases p2 <;> cases d1 <;> simp <;> (first | done | (cases p <;> simp <;> done) | (cases p3 <;> cases p4 <;> cases d2 <;> cases p <;> simp))
      · have e : ¬ ((1 ≤ r.f0 ∧ r.f0 ≤ 3 ∧ 1 ≤ r.f1 ∧ r.f1 ≤ 3 ∧ 0 ≤ r.f9 ∧ r.f9 ≤ 4) ∧ (r.f2 = 0 ∨ r.f2 = 1 ∨ r.f2 = 6 ∨ r.f2 = 17)) := fun z => b2 ⟨z.1.2.2.2.2.1, z.1.2.2.2.2.2⟩
        rw [decide_eq_false e, decide_eq_true b0, decide_eq_true b1, decide_eq_false b2]
        simp
    · have e : ¬ ((1 ≤ r.f0 ∧ r.f0 ≤ 3 ∧ 1 ≤ r.f1 ∧ r.f1 ≤ 3 ∧ 0 ≤ r.f9 ∧ r.f9 ≤ 4) ∧ (r.f2 = 0 ∨ r.f2 = 1 ∨ r.f2 = 6 ∨ r.f2 = 17)) := fun z => b1 ⟨z.1.2.2.1, z.1.2.2.2.1⟩
      rw [decide_eq_false e, decide_eq_true b0, decide_eq_false b1]
      simp
  · have e : ¬ ((1 ≤ r.f0 ∧ r.f0 ≤ 3 ∧ 1 ≤ r.f1 ∧ r.f1 ≤ 3 ∧ 0 ≤ r.f9 ∧ r.f9 ≤ 4) ∧ (r.f2 = 0 ∨ r.f2 = 1 ∨ r.f2 = 6 ∨ r.f2 = 17)) := fun z => b0 ⟨z.1.1, z.1.2.1⟩
    rw [decide_eq_false e, decide_eq_false b0]
    simp
/-- The words of a rule. -/
def actL (i : Int) : List UInt8 := if i = 1 then [112, 97, 115, 115] else if i = 2 then [100, 114, 111, 112] else [114, 101, 106, 101, 99, 116]
def dirL (i : Int) : List UInt8 := if i = 1 then [105, 110] else if i = 2 then [111, 117, 116] else [98, 111, 116, 104]
def staL (i : Int) : List UInt8 := if i = 1 then [110, 101, 119] else if i = 2 then [107, 110, 111, 119, 110] else if i = 3 then [114, 101, 108, 97, 116, 101, 100] else [115, 116, 114, 97, 121]
def proL (i : Int) : List UInt8 := if i = 1 then [105, 99, 109, 112] else if i = 6 then [116, 99, 112] else if i = 17 then [117, 100, 112] else anyL
theorem cutA_f : spec_l02Cut.f 40 (⟨#[45, 32, 112, 97, 115, 115, 32, 100, 114, 111, 112, 32, 114, 101, 106, 101, 99, 116]⟩ : ByteArray) 32 = some [BA [45], BA (actL 1), BA (actL 2), BA (actL 3)] := by kernel_rfl
theorem cutD_f : spec_l02Cut.f 40 (⟨#[45, 32, 105, 110, 32, 111, 117, 116, 32, 98, 111, 116, 104]⟩ : ByteArray) 32 = some [BA [45], BA (dirL 1), BA (dirL 2), BA (dirL 3)] := by kernel_rfl
theorem cutS_f : spec_l02Cut.f 40 (⟨#[97, 110, 121, 32, 110, 101, 119, 32, 107, 110, 111, 119, 110, 32, 114, 101, 108, 97, 116, 101, 100, 32, 115, 116, 114, 97, 121]⟩ : ByteArray) 32 = some [BA anyL, BA (staL 1), BA (staL 2), BA (staL 3), BA (staL 4)] := by kernel_rfl
theorem wordA {i : Int} (h : 1 ≤ i ∧ i ≤ 3) {k : Nat} (hk : 40 ≤ k) : spec_l09Word.f k (⟨#[45, 32, 112, 97, 115, 115, 32, 100, 114, 111, 112, 32, 114, 101, 106, 101, 99, 116]⟩ : ByteArray) i = some (BA (actL i)) := by
  unfold spec_l09Word.f
  rw [at_rounds (fun k => spec_l02Cut.mono _ _ k) hk cutA_f]
  rcases (by omega : i = 1 ∨ i = 2 ∨ i = 3) with rfl | rfl | rfl <;> rfl
theorem wordD {i : Int} (h : 1 ≤ i ∧ i ≤ 3) {k : Nat} (hk : 40 ≤ k) : spec_l09Word.f k (⟨#[45, 32, 105, 110, 32, 111, 117, 116, 32, 98, 111, 116, 104]⟩ : ByteArray) i = some (BA (dirL i)) := by
  unfold spec_l09Word.f
  rw [at_rounds (fun k => spec_l02Cut.mono _ _ k) hk cutD_f]
  rcases (by omega : i = 1 ∨ i = 2 ∨ i = 3) with rfl | rfl | rfl <;> rfl
theorem wordS {i : Int} (h : 1 ≤ i ∧ i ≤ 4) {k : Nat} (hk : 40 ≤ k) : spec_l09Word.f k (⟨#[97, 110, 121, 32, 110, 101, 119, 32, 107, 110, 111, 119, 110, 32, 114, 101, 108, 97, 116, 101, 100, 32, 115, 116, 114, 97, 121]⟩ : ByteArray) i = some (BA (staL i)) := by
  unfold spec_l09Word.f
  rw [at_rounds (fun k => spec_l02Cut.mono _ _ k) hk cutS_f]
  rcases (by omega : i = 1 ∨ i = 2 ∨ i = 3 ∨ i = 4) with rfl | rfl | rfl | rfl <;> rfl
theorem proS (p : Int) : spec_l09ProtoName.f p = some (BA (proL p)) := by
  unfold spec_l09ProtoName.f proL
  by_cases h1 : p = 1
  · rw [if_pos h1, if_pos h1]; rfl
  · by_cases h2 : p = 6
    · rw [if_neg h1, if_neg h1, if_pos h2, if_pos h2]; rfl
    · by_cases h3 : p = 17
      · rw [if_neg h1, if_neg h1, if_neg h2, if_neg h2, if_pos h3, if_pos h3]; rfl
      · rw [if_neg h1, if_neg h1, if_neg h2, if_neg h2, if_neg h3, if_neg h3]; rfl
theorem proI {p : Int} (h : p = 0 ∨ p = 1 ∨ p = 6 ∨ p = 17) : proW p = some (BA (proL p)) := by
  rcases h with rfl | rfl | rfl | rfl <;> rfl
theorem actI {i : Int} (h : 1 ≤ i ∧ i ≤ 3) : wAct.getD i.toNat ByteArray.empty = BA (actL i) := by
  rcases (by omega : i = 1 ∨ i = 2 ∨ i = 3) with rfl | rfl | rfl <;> rfl
theorem dirI {i : Int} (h : 1 ≤ i ∧ i ≤ 3) : wDir.getD i.toNat ByteArray.empty = BA (dirL i) := by
  rcases (by omega : i = 1 ∨ i = 2 ∨ i = 3) with rfl | rfl | rfl <;> rfl
theorem staI {i : Int} (h : 1 ≤ i ∧ i ≤ 4) : wSta.getD i.toNat ByteArray.empty = BA (staL i) := by
  rcases (by omega : i = 1 ∨ i = 2 ∨ i = 3 ∨ i = 4) with rfl | rfl | rfl | rfl <;> rfl
theorem words_len (i : Int) : (actL i).length ≤ 10 ∧ (dirL i).length ≤ 10 ∧ (staL i).length ≤ 10 ∧ (proL i).length ≤ 10 := by
  unfold actL dirL staL proL anyL
  refine ⟨?_, ?_, ?_, ?_⟩ <;> repeat' split
  all_goals simp
/-- A rule as a text. -/
def ruleL (r : S33) : List UInt8 := actL r.f0 ++ [32] ++ dirL r.f1 ++ [32] ++ proL r.f2 ++ [32, 102, 114, 111, 109, 32] ++ sideL r.f3.f0 r.f3.f1 r.f4 r.f5 ++ [32, 116, 111, 32] ++ sideL r.f6.f0 r.f6.f1 r.f7 r.f8 ++ (if r.f9 = 0 then [] else [32] ++ staL r.f9)
theorem okRu_parts {r : S33} (h : okRu r = true) : ((1 ≤ r.f0 ∧ r.f0 ≤ 3) ∧ (1 ≤ r.f1 ∧ r.f1 ≤ 3) ∧ (0 ≤ r.f9 ∧ r.f9 ≤ 4)) ∧ (r.f2 = 0 ∨ r.f2 = 1 ∨ r.f2 = 6 ∨ r.f2 = 17) ∧ okP r.f3.f0 r.f3.f1 ∧ okP r.f6.f0 r.f6.f1 ∧ port r.f4 ∧ port r.f5 ∧ port r.f7 ∧ port r.f8 := by
  unfold okRu at h
  simp only [Bool.and_eq_true, decide_eq_true_eq] at h
  obtain ⟨⟨⟨⟨⟨⟨⟨⟨⟨⟨⟨g0, g1, g2, g3, g4, g5⟩, hp⟩, a1⟩, a2⟩, a3⟩, a4⟩, a5⟩, a6⟩, _⟩, _⟩, _⟩ := h
  exact ⟨⟨⟨g0, g1⟩, ⟨g2, g3⟩, ⟨g4, g5⟩⟩, hp, a1, a2, a3, a4, a5, a6⟩
theorem ruleL_len {r : S33} (h : okRu r = true) : (ruleL r).length ≤ 300000 := by
  obtain ⟨_, _, a1, a2, a3, a4, a5, a6⟩ := okRu_parts h
  have l1 := sideL_len a1 a3 a4
  have l2 := sideL_len a2 a5 a6
  have w0 := (words_len r.f0).1
  have w1 := (words_len r.f1).2.1
  have w2 := (words_len r.f2).2.2.2
  have w3 := (words_len r.f9).2.2.1
  unfold ruleL
  split
  all_goals (simp only [List.length_append, List.length_cons, List.length_nil]; omega)
theorem ruleI {r : S33} (h : okRu r = true) {k : Nat} (hk : 300 ≤ k) : impl_showRule.f k r.f0 r.f1 r.f2 r.f3.f0 r.f3.f1 r.f4 r.f5 r.f6.f0 r.f6.f1 r.f7 r.f8 r.f9 = some (BA (ruleL r)) := by
  obtain ⟨⟨g0, g1, g2⟩, hp, a1, a2, a3, a4, a5, a6⟩ := okRu_parts h
  have l1 := sideL_len a1 a3 a4
  have l2 := sideL_len a2 a5 a6
  unfold impl_showRule.f
  rw [if_pos (by omega), proI hp, show (⟨#[102, 114, 111, 109]⟩ : ByteArray) = BA [102, 114, 111, 109] from rfl, show (⟨#[116, 111]⟩ : ByteArray) = BA [116, 111] from rfl, sideI a1 a3 a4 _ (by decide) hk, sideI a2 a5 a6 _ (by decide) hk, Option.bind_some, Option.bind_some, BA_size]
  simp only [List.length_append, List.length_cons, List.length_nil]
  rw [if_pos (by omega), Option.bind_some, BA_size]
  simp only [List.length_append, List.length_cons, List.length_nil]
  rw [if_pos (by omega), actI g0, dirI g1]
  unfold ruleT ruleL
  rw [show (⟨#[32]⟩ : ByteArray) = BA [32] from rfl]
  by_cases c : r.f9 = 0
  · rw [if_pos c, if_pos c]
    simp only [BA_app]
    simp
  · rw [if_neg c, if_neg c, staI (by omega)]
    simp only [BA_app]
    simp
theorem rd33 {l : List S33} {i : Nat} (h : i < l.length) : rd_T33 l (i : Int) = l[i] := by
  unfold rd_T33
  rw [Int.toNat_natCast, List.getD_eq_getElem?_getD, List.getElem?_eq_getElem h]
  rfl
theorem ru_istep (l : List S33) {k i : Nat} (hi : i < l.length) (hn : l.length ≤ 64) (hk : 300 ≤ k) (acc : List UInt8) (ha : acc.length ≤ 1000000000000) : impl_ShowRules.l0 (k + 1) (BA acc) l (l.length : Int) (i : Int) = if okRu l[i] = true then impl_ShowRules.l0 k (BA (acc ++ ruleL l[i] ++ [10])) l (l.length : Int) ((i + 1 : Nat) : Int) else some (BA [], 1) := by
  rw [impl_ShowRules.l0, if_pos (by omega), if_pos (by omega), if_pos (by omega), rd33 hi, ruI, show (⟨#[10]⟩ : ByteArray) = BA [10] from rfl, wr_succ hi (by omega)]
  simp only [Option.bind_some]
  by_cases h : okRu l[i] = true
  · have hl := ruleL_len h
    rw [if_pos h, if_pos h, ruleI h hk]
    simp only [Option.bind_some, BA_app, BA_size, List.length_append, List.length_cons, List.length_nil]
    rw [if_pos (by omega), if_pos (by omega), List.append_assoc]
  · rw [if_neg h, if_neg h]
    rfl
theorem ru_sstep (l : List S33) {k i : Nat} (hi : i < l.length) (hn : l.length ≤ 64) (hk : 65600 ≤ k) (acc : List UInt8) (ha : acc.length ≤ 1000000000000) : spec_ShowRules.l0 (k + 1) l (BA acc) (i : Int) = if okRu l[i] = true then spec_ShowRules.l0 k l (BA (acc ++ ruleL l[i] ++ [10])) ((i + 1 : Nat) : Int) else some (BA [], 1) := by
  rw [spec_ShowRules.l0, if_pos (by omega), if_pos (by omega), rd33 hi, ruS _ (by omega), wr_succ hi (by omega)]
  simp only [Option.bind_some]
  by_cases h : okRu l[i] = true
  · rw [if_pos h, if_pos h]
    generalize l[i] = r at h
    obtain ⟨⟨g0, g1, g2⟩, hp, a1, a2, a3, a4, a5, a6⟩ := okRu_parts h
    have l1 := sideL_len a1 a3 a4
    have l2 := sideL_len a2 a5 a6
    have w0 := (words_len r.f0).1
    have w1 := (words_len r.f1).2.1
    have w2 := (words_len r.f2).2.2.2
    have w3 := (words_len r.f9).2.2.1
    rw [wordA g0 (by omega), wordD g1 (by omega), proS, sideS a1 a3 a4 hk, sideS a2 a5 a6 hk, show (⟨#[10]⟩ : ByteArray) = BA [10] from rfl, show (⟨#[32]⟩ : ByteArray) = BA [32] from rfl, show (⟨#[32, 102, 114, 111, 109, 32]⟩ : ByteArray) = BA [32, 102, 114, 111, 109, 32] from rfl, show (⟨#[32, 116, 111, 32]⟩ : ByteArray) = BA [32, 116, 111, 32] from rfl]
    unfold ruleL
    by_cases c : r.f9 = 0
    · simp only [Option.bind_some, BA_app, BA_size, List.length_append, List.length_cons, List.length_nil]
      rw [if_pos (by omega), if_pos (by omega), if_pos (by omega), if_pos (by omega), if_pos (by omega), if_pos (by omega), if_pos (by omega), if_pos (by omega), if_pos (by omega), if_pos c, if_pos c, if_pos (by omega)]
      simp
    · rw [wordS (by omega) (by omega)]
      simp only [Option.bind_some, BA_app, BA_size, List.length_append, List.length_cons, List.length_nil]
      rw [if_pos (by omega), if_pos (by omega), if_pos (by omega), if_pos (by omega), if_pos (by omega), if_pos (by omega), if_pos (by omega), if_pos (by omega), if_pos (by omega), if_neg c, if_neg c, if_pos (by omega), if_pos (by omega), if_pos (by omega)]
      simp
  · rw [if_neg h, if_neg h]
    rfl
theorem ru_l (l : List S33) (hn : l.length ≤ 64) (d : Nat) : ∀ (k i : Nat) (acc : List UInt8), i + d = l.length → d + 65600 < k → acc.length ≤ i * 300001 → ∃ r, impl_ShowRules.l0 k (BA acc) l (l.length : Int) (i : Int) = some r ∧ spec_ShowRules.l0 k l (BA acc) (i : Int) = some r := by
  induction d with
  | zero =>
    intro k i acc hi hk ha
    obtain ⟨k, rfl⟩ : ∃ m, k = m + 1 := ⟨k - 1, by omega⟩
    rw [impl_ShowRules.l0, spec_ShowRules.l0, if_neg (by omega), if_neg (by omega)]
    exact ⟨_, rfl, rfl⟩
  | succ d ih =>
    intro k i acc hi hk ha
    obtain ⟨k, rfl⟩ : ∃ m, k = m + 1 := ⟨k - 1, by omega⟩
    rw [ru_istep l (by omega) hn (by omega) acc (by omega), ru_sstep l (by omega) hn (by omega) acc (by omega)]
    by_cases h : okRu l[i] = true
    · rw [if_pos h, if_pos h]
      have hl := ruleL_len h
      exact ih k (i + 1) _ (by omega) (by omega) (by simp only [List.length_append, List.length_cons, List.length_nil]; omega)
    · rw [if_neg h, if_neg h]
      exact ⟨_, rfl, rfl⟩
theorem ru_f (l : List S33) {k : Nat} (hk : 65700 < k) : ∃ r, impl_ShowRules.f k l = some r ∧ spec_ShowRules.f k l = some r := by
  unfold impl_ShowRules.f spec_ShowRules.f
  by_cases h : (l.length : Int) > 64
  · rw [if_pos h, if_pos h]
    exact ⟨_, rfl, rfl⟩
  · rw [if_neg h, if_neg h, show (⟨#[]⟩ : ByteArray) = BA [] from rfl]
    exact ru_l l (by omega) l.length k 0 [] (by omega) (by omega) (by simp)
def cvRu (x : S41) : S33 := ⟨x.f0, x.f1, x.f2, ⟨x.f3.f0, x.f3.f1⟩, x.f4, x.f5, ⟨x.f6.f0, x.f6.f1⟩, x.f7, x.f8, x.f9⟩
theorem toRu_l (x0 : List S41) (hn : x0.length ≤ 1048576) (d : Nat) : ∀ (k i : Nat) (x3 : List S33), i + d = x0.length → d < k → x3.length = x0.length → (∀ j, j < i → x3[j]? = (x0.map cvRu)[j]?) → laws_toRuleS.l0 k x0 x3 (i : Int) = some (x0.map cvRu) := by
  induction d with
  | zero =>
    intro k i x3 hi hk hl he
    obtain ⟨k, rfl⟩ : ∃ m, k = m + 1 := ⟨k - 1, by omega⟩
    simp only [laws_toRuleS.l0]
    rw [if_neg (by omega)]
    congr 1
    apply List.ext_getElem?
    intro j
    by_cases hj : j < i
    · exact he j hj
    · rw [List.getElem?_eq_none (by omega), List.getElem?_eq_none (by rw [List.length_map]; omega)]
  | succ d ih =>
    intro k i x3 hi hk hl he
    obtain ⟨k, rfl⟩ : ∃ m, k = m + 1 := ⟨k - 1, by omega⟩
    simp only [laws_toRuleS.l0, laws_toRule.f, laws_toPrefix.f, Option.bind_some]
    rw [if_pos (by omega), if_pos (by omega), if_pos (by omega), wr_succ (n := x0.length) (by omega) (by omega)]
    refine ih k (i + 1) _ (by omega) (by omega) (by simp [hl]) ?_
    intro j hj
    rw [Int.toNat_natCast]
    by_cases e : j = i
    · subst e
      rw [List.getElem?_set_self (by omega), List.getElem?_map, List.getElem?_eq_getElem (show j < x0.length by omega)]
      unfold rd_T41 cvRu
      rw [Int.toNat_natCast, List.getD_eq_getElem?_getD, List.getElem?_eq_getElem (show j < x0.length by omega)]
      rfl
    · rw [List.getElem?_set_ne (by omega)]
      exact he j (by omega)
theorem toRu_f {l : List S41} (hn : l.length ≤ 1048576) {k : Nat} (hk : l.length < k) : laws_toRuleS.f k l = some (l.map cvRu) := by
  unfold laws_toRuleS.f
  rw [if_pos (by omega), if_pos (by rw [Int.toNat_natCast]; omega), Int.toNat_natCast]
  exact toRu_l l hn l.length k 0 _ (by omega) hk (by simp) (fun j hj => absurd hj (by omega))
theorem eqRu_same (a b c d e f g h i j m n : Int) : laws_eqRule.f a b c d e f g h i j m n a b c d e f g h i j m n = some true := by
  unfold laws_eqRule.f laws_eqPrefix.f
  simp
theorem eqRu_l (x : List S33) (hn : x.length ≤ 1048576) (d : Nat) : ∀ (k i : Nat), i + d = x.length → d < k → laws_eqRuleS.l0 k x x (i : Int) = some true := by
  induction d with
  | zero =>
    intro k i hi hk
    obtain ⟨k, rfl⟩ : ∃ m, k = m + 1 := ⟨k - 1, by omega⟩
    simp only [laws_eqRuleS.l0]
    rw [if_neg (by omega)]
  | succ d ih =>
    intro k i hi hk
    obtain ⟨k, rfl⟩ : ∃ m, k = m + 1 := ⟨k - 1, by omega⟩
    simp only [laws_eqRuleS.l0, eqRu_same, if_true, Option.bind_some]
    rw [if_pos (by omega), if_pos (by omega), if_pos (by omega), wr_succ (n := x.length) (by omega) (by omega)]
    exact ih k (i + 1) (by omega) (by omega)
theorem eqRuS_same {l : List S33} (hn : l.length ≤ 1048576) {k : Nat} (hk : l.length < k) : laws_eqRuleS.f k l l = some true := by
  unfold laws_eqRuleS.f
  rw [if_pos rfl]
  exact eqRu_l l hn l.length k 0 (by omega) hk

/-! ### the law -/
theorem FnExactShowRules (l : List S41) (hl : l.length ≤ maxLen) (hlw : ∀ x ∈ l, ((Lit.int .i64 x.f0).wf = true ∧ (Lit.int .i64 x.f1).wf = true ∧ (Lit.int .i64 x.f2).wf = true ∧ (Lit.int .i64 x.f3.f0).wf = true ∧ (Lit.int .i64 x.f3.f1).wf = true ∧ (Lit.int .i64 x.f4).wf = true ∧ (Lit.int .i64 x.f5).wf = true ∧ (Lit.int .i64 x.f6.f0).wf = true ∧ (Lit.int .i64 x.f6.f1).wf = true ∧ (Lit.int .i64 x.f7).wf = true ∧ (Lit.int .i64 x.f8).wf = true ∧ (Lit.int .i64 x.f9).wf = true)) : ∃ k, laws_FnExactShowRules.f k l = some true := by
  have hl2 : l.length ≤ 9223372036854775807 := by unfold maxLen at hl; exact hl
  by_cases h : (l.length : Int) > 1048576
  · refine ⟨0, ?_⟩
    unfold laws_FnExactShowRules.f laws_szRuleS.f
    rw [wr64 (by omega), if_pos (by omega)]
    simp only [Option.bind_some]
    rw [if_pos (by omega)]
  · have hn : l.length ≤ 1048576 := by omega
    have hm : (l.map cvRu).length ≤ 1048576 := by rw [List.length_map]; exact hn
    obtain ⟨k, hk⟩ : ∃ k, k = 1000400 + l.length + 1 := ⟨_, rfl⟩
    refine ⟨k + 1, ?_⟩
    obtain ⟨r, e1, e2⟩ := ru_f (l.map cvRu) (k := k + 1) (by omega)
    unfold laws_FnExactShowRules.f laws_szRuleS.f
    rw [wr64 (by omega), if_neg (by omega)]
    simp only [Option.bind_some]
    rw [if_neg (by omega), toRu_f hn (by omega)]
    simp only [Option.bind_some]
    rw [e1, e2]
    simp only [Option.bind_some, if_true, laws_FnExactShowRules.j0, bne_self_eq_false, Bool.false_eq_true, if_false]
    rw [toRu_f hn (by omega)]
    simp only [Option.bind_some]
    rw [eqRuS_same hm (by rw [List.length_map]; omega)]
    rfl

end Go.Proofs.YtmgapmpmmkmdhaaDoor.Pure
