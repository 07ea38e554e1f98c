/- The program's ShowPrefix answers as the reference's, for every prefix; without conditions. -/
import Derived.Test.YtnnplkhjmdbmbaaDoorPFnExactShowPrefixx2
set_option linter.unusedVariables false
set_option linter.unusedSimpArgs false
namespace Go.Proofs.YtnnplkhjmdbmbaaDoor.Pure
open Go.RowKit Go.Proofs.YtnnplkhjmdbmbaaDoor.PFnExactShowPrefix Go.Proofs.YtnnplkhjmdbmbaaDoorW.PrintWords Go.Proofs.YtnnplkhjmdbmbaaDoorW.PrintLast

/-! ### base -/
theorem wf64 {a : Int} (h : (Lit.int .i64 a).wf = true) : -9223372036854775808 ≤ a ∧ a ≤ 9223372036854775807 := by
  have h1 : IntKind.i64.min = -9223372036854775808 := by decide
  have h2 : IntKind.i64.max = 9223372036854775807 := by decide
  simp only [Lit.wf, Bool.and_eq_true, decide_eq_true_eq] at h
  omega
theorem tm_pos {a : Int} (n : Int) (h : 0 ≤ a) : Int.tmod a n = a % n := Int.tmod_eq_emod_of_nonneg h
theorem tm_neg {a : Int} (n : Int) (h : a ≤ 0) : Int.tmod a n = -((-a) % n) := by
  have := Int.neg_tmod (-a) n
  rw [Int.neg_neg] at this
  rw [this, Int.tmod_eq_emod_of_nonneg (by omega)]
theorem td_pos {a : Int} (n : Int) (h : 0 ≤ a) : Int.tdiv a n = a / n := Int.tdiv_eq_ediv_of_nonneg h
theorem wr64 {a : Int} (h : -9223372036854775808 ≤ a ∧ a ≤ 9223372036854775807) : wrap64 a = a := by
  unfold wrap64
  omega
theorem dec_eq {p : Prop} [Decidable p] {b : Bool} (h : b = true ↔ p) : some b = some (decide p) := by
  rw [Option.some.injEq, Bool.eq_iff_iff, decide_eq_true_eq]
  exact h
theorem ite_dec (p q : Prop) [Decidable p] [Decidable q] : (if p then some (decide q) else some false) = some (decide (p ∧ q)) := by
  by_cases h : p <;> simp [h]
theorem beq_dec (a b : Int) : (a == b) = decide (a = b) := by
  rw [Bool.eq_iff_iff]
  simp

/-! ### addr0 -/
theorem in_f (a l h : Int) : spec_l01In.f a l h = some (decide (l ≤ a ∧ a ≤ h)) := by
  unfold spec_l01In.f
  by_cases h1 : a ≥ l
  · rw [if_pos h1]; congr 1; rw [decide_eq_decide]; omega
  · rw [if_neg h1]; congr 1; rw [eq_comm, decide_eq_false_iff_not]; omega

/-! ### addr -/
theorem addrOK_f (a : Int) : spec_l02AddrOK.f a = some (decide (0 ≤ a ∧ a ≤ 4294967295)) := by
  unfold spec_l02AddrOK.f
  rw [in_f]
  rfl
theorem isAddr_f (a : Int) : impl_isAddr.f a = some (decide (0 ≤ a ∧ a ≤ 4294967295)) := by
  unfold impl_isAddr.f
  by_cases h1 : a ≥ 0
  · rw [if_pos h1]; congr 1; rw [decide_eq_decide]; omega
  · rw [if_neg h1]; congr 1; rw [eq_comm, decide_eq_false_iff_not]; omega

/-! ### bits -/
theorem wraps_i64 (n : Int) (h₀ : 0 ≤ n) (h₁ : n < 2 ^ 63) : IntKind.i64.wrap n = n := by rw [IntKind.wrap_i64]; omega
/-- The low bits of any whole number. -/
theorem and_low (i : Nat) (hi : i ≤ 62) (x : Int) : Go.bits .and .i64 x (2 ^ i - 1) = x % 2 ^ i := by
  have hpos : 0 < 2 ^ i := Nat.two_pow_pos i
  have h62 : 2 ^ i ≤ 2 ^ 62 := Nat.pow_le_pow_right (by decide) hi
  have hc : ((2 : Int) ^ i - 1) = ((2 ^ i - 1 : Nat) : Int) := by
    rw [Int.natCast_sub hpos]; simp
  have hx0 : 0 ≤ x % 18446744073709551616 := Int.emod_nonneg _ (by decide)
  have hx : (BitVec.ofInt 64 x).toNat = (x % 18446744073709551616).toNat := by rw [BitVec.toNat_ofInt]; rfl
  have hd : ((2 : Int) ^ i) ∣ 18446744073709551616 := by
    rw [show (18446744073709551616 : Int) = 2 ^ 64 from rfl]
    exact ⟨2 ^ (64 - i), by rw [← Int.pow_add, show i + (64 - i) = 64 from by omega]⟩
  have h2 : ((x % 18446744073709551616).toNat % 2 ^ i : Nat) = (x % 2 ^ i).toNat := by
    apply Int.ofNat.inj
    have e1 : (((x % 18446744073709551616).toNat % 2 ^ i : Nat) : Int) = x % 2 ^ i := by
      rw [Int.natCast_emod, Int.toNat_of_nonneg hx0, Int.natCast_pow]
      exact Int.emod_emod_of_dvd _ hd
    have e2 : 0 ≤ x % 2 ^ i := Int.emod_nonneg _ (by have : (0 : Int) < 2 ^ i := Int.pow_pos (by decide); omega)
    exact e1.trans (Int.toNat_of_nonneg e2).symm
  have e2 : 0 ≤ x % 2 ^ i := Int.emod_nonneg _ (by have : (0 : Int) < 2 ^ i := Int.pow_pos (by decide); omega)
  have e3 : x % 2 ^ i < 2 ^ i := Int.emod_lt_of_pos _ (Int.pow_pos (by decide))
  have e4 : (2 : Int) ^ i ≤ 2 ^ 62 := by exact_mod_cast h62
  have key : Go.bits .and .i64 x (2 ^ i - 1) = IntKind.i64.wrap (((BitVec.ofInt 64 x).toNat &&& (BitVec.ofInt 64 ((2 ^ i - 1 : Nat) : Int)).toNat : Nat) : Int) := by
    rw [hc]
    show IntKind.i64.wrap ((BitVec.ofInt 64 x &&& BitVec.ofInt 64 ((2 ^ i - 1 : Nat) : Int)).toNat : Int) = _
    rw [BitVec.toNat_and]
  rw [key, hx]
  have hm : (BitVec.ofInt 64 ((2 ^ i - 1 : Nat) : Int)).toNat = 2 ^ i - 1 := by
    rw [BitVec.ofInt_natCast, BitVec.toNat_ofNat]
    exact Nat.mod_eq_of_lt (by omega)
  rw [hm, Nat.and_two_pow_sub_one_eq_mod, h2, Int.toNat_of_nonneg e2]
  exact wraps_i64 _ e2 (by omega)
theorem and_65535 (x : Int) : Go.bits .and .i64 x 65535 = x % 65536 := and_low 16 (by decide) x
theorem and_255 (x : Int) : Go.bits .and .i64 x 255 = x % 256 := and_low 8 (by decide) x
theorem nat_and_high (a n : Nat) (ha : a < 2 ^ 32) (hn : n ≤ 32) : a &&& ((2 ^ (32 - n) - 1) * 2 ^ n) = a / 2 ^ n * 2 ^ n := by
  apply Nat.eq_of_testBit_eq
  intro i
  rw [Nat.testBit_and, Nat.testBit_mul_two_pow, Nat.testBit_mul_two_pow, Nat.testBit_div_two_pow, Nat.testBit_two_pow_sub_one]
  by_cases h : n ≤ i
  · simp only [h, decide_true, Bool.true_and]
    rw [show i - n + n = i from by omega]
    by_cases h3 : i - n < 32 - n
    · simp [h3]
    · have : a.testBit i = false := Nat.testBit_lt_two_pow (Nat.lt_of_lt_of_le ha (Nat.pow_le_pow_right (by decide) (by omega)))
      simp [this]
  · simp [h]
theorem and_high (a : Int) (n : Nat) (h0 : 0 ≤ a) (h1 : a ≤ 4294967295) (hn : n ≤ 32) : Go.bits .and .i64 a ((2 ^ (32 - n) - 1) * 2 ^ n) = a / 2 ^ n * 2 ^ n := by
  obtain ⟨b, rfl⟩ := Int.eq_ofNat_of_zero_le h0
  have hc : (((2 : Int) ^ (32 - n) - 1) * 2 ^ n) = (((2 ^ (32 - n) - 1) * 2 ^ n : Nat) : Int) := by
    rw [Int.natCast_mul, Int.natCast_sub (Nat.two_pow_pos _)]; simp
  have hl : (2 ^ (32 - n) - 1) * 2 ^ n ≤ 4294967295 := by
    rw [Nat.sub_mul, ← Nat.pow_add, show 32 - n + n = 32 from by omega]
    have := Nat.two_pow_pos n
    omega
  rw [hc, (bits_nat .i64 63 (by decide) wraps_i64 b _ (by omega) (by omega)).1, nat_and_high b n (by omega) hn]
  simp

/-! ### prefix -/
theorem bits33 {b : Int} (h : 0 ≤ b ∧ b ≤ 32) : b = 0 ∨ b = 1 ∨ b = 2 ∨ b = 3 ∨ b = 4 ∨ b = 5 ∨ b = 6 ∨ b = 7 ∨ b = 8 ∨ b = 9 ∨ b = 10 ∨ b = 11 ∨ b = 12 ∨ b = 13 ∨ b = 14 ∨ b = 15 ∨ b = 16 ∨ b = 17 ∨ b = 18 ∨ b = 19 ∨ b = 20 ∨ b = 21 ∨ b = 22 ∨ b = 23 ∨ b = 24 ∨ b = 25 ∨ b = 26 ∨ b = 27 ∨ b = 28 ∨ b = 29 ∨ b = 30 ∨ b = 31 ∨ b = 32 := by omega
/-- How many addresses a prefix of so many bits has. -/
def sz (b : Int) : Int := 2 ^ (32 - b).toNat
theorem sz_pos (b : Int) : 0 < sz b := Int.pow_pos (by decide)
theorem sz_le {b : Int} (h : 0 ≤ b ∧ b ≤ 32) : sz b ≤ 4294967296 := by
  rcases bits33 h with rfl | rfl | rfl | rfl | rfl | rfl | rfl | rfl | rfl | rfl | rfl | rfl | rfl | rfl | rfl | rfl | rfl | rfl | rfl | rfl | rfl | rfl | rfl | rfl | rfl | rfl | rfl | rfl | rfl | rfl | rfl | rfl | rfl <;> decide
theorem size_f {b : Int} (h : 0 ≤ b ∧ b ≤ 32) {k : Nat} (hk : 40 ≤ k) : spec_l02Size.f k b = some (sz b) := by
  have h0 : spec_l02Size.f 40 b = some (sz b) := by
    rcases bits33 h with rfl | rfl | rfl | rfl | rfl | rfl | rfl | rfl | rfl | rfl | rfl | rfl | rfl | rfl | rfl | rfl | rfl | rfl | rfl | rfl | rfl | rfl | rfl | rfl | rfl | rfl | rfl | rfl | rfl | rfl | rfl | rfl | rfl <;> decide +kernel
  exact at_rounds (fun k => spec_l02Size.mono b k) hk h0
theorem mask_f {b : Int} (h : 0 ≤ b ∧ b ≤ 32) : impl_mask.f b = some ((2 ^ (32 - (32 - b).toNat) - 1) * 2 ^ (32 - b).toNat) := by
  rcases bits33 h with rfl | rfl | rfl | rfl | rfl | rfl | rfl | rfl | rfl | rfl | rfl | rfl | rfl | rfl | rfl | rfl | rfl | rfl | rfl | rfl | rfl | rfl | rfl | rfl | rfl | rfl | rfl | rfl | rfl | rfl | rfl | rfl | rfl <;> decide +kernel
theorem and_mask {a b : Int} (h : 0 ≤ b ∧ b ≤ 32) (ha : 0 ≤ a ∧ a ≤ 4294967295) : Go.bits .and .i64 a ((2 ^ (32 - (32 - b).toNat) - 1) * 2 ^ (32 - b).toNat) = a / sz b * sz b :=
  and_high a _ ha.1 ha.2 (by omega)
/-- A prefix is valid. -/
def okP (a b : Int) : Prop := (0 ≤ a ∧ a ≤ 4294967295) ∧ (0 ≤ b ∧ b ≤ 32) ∧ a % sz b = 0
instance (a b : Int) : Decidable (okP a b) := by unfold okP; exact inferInstance
theorem div_back {a s : Int} (hs : 0 < s) : (a / s * s = a) ↔ a % s = 0 := by
  have := Int.mul_ediv_add_emod a s
  rw [Int.mul_comm] at this
  omega
theorem specOK_f (a b : Int) {k : Nat} (hk : 40 ≤ k) : spec_l02PrefixOK.f k a b = some (decide (okP a b)) := by
  unfold spec_l02PrefixOK.f okP
  rw [addrOK_f, in_f]
  simp only [Option.bind_some]
  by_cases ha : 0 ≤ a ∧ a ≤ 4294967295
  · by_cases hb : 0 ≤ b ∧ b ≤ 32
    · rw [size_f hb hk]
      have := sz_pos b
      simp only [ha, hb, and_self, decide_true, if_true, Option.bind_some, true_and]
      rw [if_neg (by omega), tm_pos _ ha.1]
      congr 1
    · simp [ha, hb]
  · simp [ha]
theorem implOK_f (a b : Int) : impl_okPrefix.f a b = some (decide (okP a b)) := by
  unfold impl_okPrefix.f okP
  rw [isAddr_f]
  simp only [Option.bind_some]
  by_cases ha : 0 ≤ a ∧ a ≤ 4294967295
  · by_cases hb : 0 ≤ b ∧ b ≤ 32
    · rw [mask_f hb]
      have hs := sz_pos b
      simp only [ha, and_self, decide_true, if_true, Option.bind_some, true_and]
      rw [if_pos (by omega), if_pos (by omega), and_mask hb ha]
      simp only [hb, and_self, true_and]
      congr 1
      have := div_back (a := a) hs
      rw [Bool.eq_iff_iff]
      simp only [beq_iff_eq, decide_eq_true_eq]
      exact this
    · simp only [ha, hb, and_self, decide_true, if_true, false_and, and_false, decide_false]
      by_cases h1 : b ≥ 0
      · rw [if_pos h1, if_neg (by omega)]
      · rw [if_neg h1]
  · simp [ha]

/-! ### txt -/
def BA (l : List UInt8) : ByteArray := ⟨l.toArray⟩
theorem BA_data (l : List UInt8) : (BA l).data.toList = l := by simp [BA]
theorem BA_size (l : List UInt8) : (BA l).size = l.length := by simp [BA, ByteArray.size]
theorem BA_ext {a b : ByteArray} (h : a.data.toList = b.data.toList) : a = b := by
  obtain ⟨⟨a⟩⟩ := a
  obtain ⟨⟨b⟩⟩ := b
  simp at h
  rw [h]
theorem BA_of (s : ByteArray) : BA s.data.toList = s := BA_ext (BA_data _)
theorem BA_app (a b : List UInt8) : BA a ++ BA b = BA (a ++ b) := by
  apply BA_ext
  rw [BA_data]
  simp [BA, ByteArray.data_append]
theorem son_BA (l : List Int) : strOfNums l = BA (l.map fun n => UInt8.ofNat n.toNat) := by
  simp [strOfNums, BA]

/-! ### decf -/
theorem dec_f (n : Nat) : ∀ (k : Nat), n < k → n ≤ 100000000 → spec_l02Dec.f k (n : Int) = some (BA (Lib.decDigits n)) ∧ (Lib.decDigits n).length ≤ n + 1 := by
  induction n using Nat.strongRecOn with
  | _ n ih =>
    intro k hk hn
    obtain ⟨k, rfl⟩ : ∃ m, k = m + 1 := ⟨k - 1, by omega⟩
    by_cases h : n < 10
    · rw [spec_l02Dec.f, if_pos (by omega), Lib.decDigits_one h, wr64 (by omega), son_BA]
      refine ⟨?_, by simp⟩
      simp only [List.map_cons, List.map_nil]
      rw [show ((48 + (n : Int)) % 256).toNat = 48 + n from by omega]
    · obtain ⟨e, hl⟩ := ih (n / 10) (by omega) k (by omega) (by omega)
      have e2 : wrap64 (Int.tdiv (n : Int) 10) = ((n / 10 : Nat) : Int) := by rw [td_pos _ (by omega), wr64 (by omega)]; omega
      rw [spec_l02Dec.f, if_neg (by omega), e2, e, tm_pos _ (by omega), wr64 (a := 48 + (n : Int) % 10) (by omega), show Lib.decDigits n = Lib.decDigits (n / 10) ++ [UInt8.ofNat (48 + n % 10)] from by rw [Lib.decDigits, dif_neg h]]
      simp only [Option.bind_some]
      rw [son_BA, BA_size, BA_size, if_pos (by simp; omega), BA_app]
      simp only [List.map_cons, List.map_nil]
      rw [show ((48 + (n : Int) % 10) % 256).toNat = 48 + n % 10 from by omega]
      refine ⟨rfl, ?_⟩
      simp
      omega
theorem dec_i {a : Int} {k : Nat} (h : 0 ≤ a ∧ a < k ∧ a ≤ 100000000) : spec_l02Dec.f k a = some (BA (Lib.decDigits a.toNat)) := by
  obtain ⟨n, rfl⟩ := Int.eq_ofNat_of_zero_le h.1
  exact (dec_f n k (by omega) (by omega)).1
theorem dec_len {a : Nat} (h : a ≤ 100000000) : (Lib.decDigits a).length ≤ a + 1 := (dec_f a (a + 1) (by omega) h).2

/-! ### fmtint -/
theorem fmt_f {a : Int} (h : 0 ≤ a ∧ a ≤ 9223372036854775807) : strconv_FormatInt.f a 10 = some (BA (Lib.decDigits a.toNat)) := by
  obtain ⟨n, rfl⟩ := Int.eq_ofNat_of_zero_le h.1
  unfold strconv_FormatInt.f
  rw [if_pos (by omega), Lib.itoa_nonneg]
  rfl

/-! ### showaddr -/
/-- An address as a text. -/
def addrL (a : Int) : List UInt8 := Lib.decDigits (a / 16777216).toNat ++ [46] ++ Lib.decDigits (a / 65536 % 256).toNat ++ [46] ++ Lib.decDigits (a / 256 % 256).toNat ++ [46] ++ Lib.decDigits (a % 256).toNat
theorem showA_spec {a : Int} (h : 0 ≤ a ∧ a ≤ 4294967295) {k : Nat} (hk : 300 ≤ k) : spec_ShowAddr.f k a = some (BA (addrL a), 0) := by
  unfold spec_ShowAddr.f
  have l1 := dec_len (a := (a / 16777216).toNat) (by omega)
  have l2 := dec_len (a := (a / 65536 % 256).toNat) (by omega)
  have l3 := dec_len (a := (a / 256 % 256).toNat) (by omega)
  have l4 := dec_len (a := (a % 256).toNat) (by omega)
  rw [addrOK_f, decide_eq_true h, and_255, and_255, and_255, dec_i (a := a / 16777216) (by omega), dec_i (a := a / 65536 % 256) (by omega), dec_i (a := a / 256 % 256) (by omega), dec_i (a := a % 256) (by omega), show (⟨#[46]⟩ : ByteArray) = BA [46] from rfl]
  simp only [Option.bind_some, if_true, BA_app, BA_size, List.length_append, List.length_cons, List.length_nil]
  rw [if_pos (by omega), if_pos (by omega), if_pos (by omega), if_pos (by omega), if_pos (by omega), if_pos (by omega)]
  rfl
theorem showA_none {a : Int} (h : ¬ (0 ≤ a ∧ a ≤ 4294967295)) (k : Nat) : spec_ShowAddr.f k a = some (⟨#[]⟩, 1) := by
  unfold spec_ShowAddr.f
  rw [addrOK_f, decide_eq_false h]
  rfl
theorem shr_24 (a : Int) : shr .i64 a 24 = a / 16777216 := rfl
theorem shr_16 (a : Int) : shr .i64 a 16 = a / 65536 := rfl
theorem shr_8 (a : Int) : shr .i64 a 8 = a / 256 := rfl
theorem shr_0 (a : Int) : shr .i64 a 0 = a / 1 := rfl
theorem showA_loop {k : Nat} {a i : Int} {l : List ByteArray} {s : ByteArray} (h : 0 ≤ i ∧ i ≤ 64) (hl : l.length ≤ 100) (e : strconv_FormatInt.f (Go.bits .and .i64 (shr .i64 a i) 255) 10 = some s) : impl_ShowAddr.l0 (k + 1) a l i = impl_ShowAddr.l0 k a (l ++ [s]) (i - 8) := by
  rw [impl_ShowAddr.l0, if_pos h.1, if_pos h.1, e]
  simp only [Option.bind_some]
  rw [if_pos (by omega), wr64 (by omega)]
theorem showA_impl {a : Int} (h : 0 ≤ a ∧ a ≤ 4294967295) {k : Nat} (hk : 300 ≤ k) : impl_ShowAddr.f k a = some (BA (addrL a), 0) := by
  unfold impl_ShowAddr.f
  have l1 := dec_len (a := (a / 16777216).toNat) (by omega)
  have l2 := dec_len (a := (a / 65536 % 256).toNat) (by omega)
  have l3 := dec_len (a := (a / 256 % 256).toNat) (by omega)
  have l4 := dec_len (a := (a % 256).toNat) (by omega)
  rw [isAddr_f, decide_eq_true h]
  simp only [Option.bind_some, if_true]
  obtain ⟨k, rfl⟩ : ∃ m, k = m + 1 + 1 + 1 + 1 + 1 := ⟨k - 5, by omega⟩
  have f1 : strconv_FormatInt.f (Go.bits .and .i64 (shr .i64 a 24) 255) 10 = some (BA (Lib.decDigits (a / 16777216).toNat)) := by
    rw [shr_24, and_255, fmt_f (by omega), show a / 16777216 % 256 = a / 16777216 from by omega]
  have f2 : strconv_FormatInt.f (Go.bits .and .i64 (shr .i64 a 16) 255) 10 = some (BA (Lib.decDigits (a / 65536 % 256).toNat)) := by
    rw [shr_16, and_255, fmt_f (by omega)]
  have f3 : strconv_FormatInt.f (Go.bits .and .i64 (shr .i64 a 8) 255) 10 = some (BA (Lib.decDigits (a / 256 % 256).toNat)) := by
    rw [shr_8, and_255, fmt_f (by omega)]
  have f4 : strconv_FormatInt.f (Go.bits .and .i64 (shr .i64 a 0) 255) 10 = some (BA (Lib.decDigits (a % 256).toNat)) := by
    rw [shr_0, and_255, fmt_f (by omega), Int.ediv_one]
  rw [showA_loop (by omega) (by simp) f1, show (24 : Int) - 8 = 16 from rfl, showA_loop (by omega) (by simp) f2, show (16 : Int) - 8 = 8 from rfl, showA_loop (by omega) (by simp) f3, show (8 : Int) - 8 = 0 from rfl, showA_loop (by omega) (by simp) f4, impl_ShowAddr.l0, if_neg (by omega)]
  unfold strings_Join.f
  have ej : Lib.join ((([] ++ [BA (Lib.decDigits (a / 16777216).toNat)] ++ [BA (Lib.decDigits (a / 65536 % 256).toNat)] ++ [BA (Lib.decDigits (a / 256 % 256).toNat)] ++ [BA (Lib.decDigits (a % 256).toNat)]).map fun x : ByteArray => x.data.toList)) (⟨#[46]⟩ : ByteArray).data.toList = addrL a := by
    simp only [List.nil_append, List.cons_append, List.map_cons, List.map_nil, BA_data]
    unfold Lib.join addrL
    simp [List.intercalate, List.intersperse]
  rw [ej, if_pos ⟨by simp, by unfold addrL; simp only [List.length_append, List.length_cons, List.length_nil]; omega⟩]
  rfl
theorem showA_impl_none {a : Int} (h : ¬ (0 ≤ a ∧ a ≤ 4294967295)) (k : Nat) : impl_ShowAddr.f k a = some (⟨#[]⟩, 1) := by
  unfold impl_ShowAddr.f
  rw [isAddr_f, decide_eq_false h]
  rfl

/-! ### showprefix -/
/-- A prefix as a text. -/
def prefixL (a b : Int) : List UInt8 := addrL a ++ [47] ++ Lib.decDigits b.toNat
theorem addrL_len {a : Int} (h : 0 ≤ a ∧ a ≤ 4294967295) : (addrL a).length ≤ 1100 := by
  have l1 := dec_len (a := (a / 16777216).toNat) (by omega)
  have l2 := dec_len (a := (a / 65536 % 256).toNat) (by omega)
  have l3 := dec_len (a := (a / 256 % 256).toNat) (by omega)
  have l4 := dec_len (a := (a % 256).toNat) (by omega)
  unfold addrL
  simp only [List.length_append, List.length_cons, List.length_nil]
  omega
theorem showP_spec {a b : Int} (h : okP a b) {k : Nat} (hk : 300 ≤ k) : spec_ShowPrefix.f k a b = some (BA (prefixL a b), 0) := by
  unfold spec_ShowPrefix.f
  have l1 := addrL_len h.1
  have hb := h.2.1
  have l2 := dec_len (a := b.toNat) (by omega)
  rw [specOK_f _ _ (by omega), decide_eq_true h, showA_spec h.1 hk, dec_i (a := b) (by omega), show (⟨#[47]⟩ : ByteArray) = BA [47] from rfl]
  simp only [Option.bind_some, if_true, BA_app, BA_size, List.length_append, List.length_cons, List.length_nil]
  rw [if_pos (by omega), if_pos (by omega)]
  rfl
theorem showP_none {a b : Int} (h : ¬ okP a b) {k : Nat} (hk : 300 ≤ k) : spec_ShowPrefix.f k a b = some (⟨#[]⟩, 1) := by
  unfold spec_ShowPrefix.f
  rw [specOK_f _ _ (by omega), decide_eq_false h]
  rfl
theorem showP_impl {a b : Int} (h : okP a b) {k : Nat} (hk : 300 ≤ k) : impl_ShowPrefix.f k a b = some (BA (prefixL a b), 0) := by
  unfold impl_ShowPrefix.f
  have l1 := addrL_len h.1
  have hb := h.2.1
  have l2 := dec_len (a := b.toNat) (by omega)
  rw [implOK_f, decide_eq_true h, showA_impl h.1 hk, fmt_f (a := b) (by omega), show (⟨#[47]⟩ : ByteArray) = BA [47] from rfl]
  simp only [Option.bind_some, if_true, BA_app, BA_size, List.length_append, List.length_cons, List.length_nil]
  rw [if_pos (by omega), if_pos (by omega)]
  rfl
theorem showP_impl_none {a b : Int} (h : ¬ okP a b) {k : Nat} (hk : 300 ≤ k) : impl_ShowPrefix.f k a b = some (⟨#[]⟩, 1) := by
  unfold impl_ShowPrefix.f
  rw [implOK_f, decide_eq_false h]
  rfl

/-! ### the law -/
theorem FnExactShowPrefix (a b : Int) (_ : (Lit.int .i64 a).wf = true) (_ : (Lit.int .i64 b).wf = true) : ∃ k, laws_FnExactShowPrefix.f k a b = some true := by
  obtain ⟨k, hk⟩ : ∃ k, k = 300 := ⟨_, rfl⟩
  refine ⟨k, ?_⟩
  unfold laws_FnExactShowPrefix.f laws_toPrefix.f
  simp only [Option.bind_some]
  by_cases h : okP a b
  · rw [showP_spec h (by omega), showP_impl h (by omega)]
    simp
  · rw [showP_none h (by omega), showP_impl_none h (by omega)]
    simp

end Go.Proofs.YtnnplkhjmdbmbaaDoor.Pure
