/- The program's ShowRoutes answers as the reference's, for every list of routes, and leaves the list as it was; without conditions. -/
import Derived.Test.YtnnplkhjmdbmbaaDoorPFnExactShowRoutesx4
set_option linter.unusedVariables false
set_option linter.unusedSimpArgs false
namespace Go.Proofs.YtnnplkhjmdbmbaaDoor.Pure
open Go.RowKit Go.Proofs.YtnnplkhjmdbmbaaDoor.PFnExactShowRoutes Go.Proofs.YtnnplkhjmdbmbaaDoorW.PrintWords Go.Proofs.YtnnplkhjmdbmbaaDoorW.PrintLast

/-! ### base -/
theorem wf64 {a : Int} (h : (Lit.int .i64 a).wf = true) : -9223372036854775808 ≤ a ∧ a ≤ 9223372036854775807 := by
  have h1 : IntKind.i64.min = -9223372036854775808 := by decide
  have h2 : IntKind.i64.max = 9223372036854775807 := by decide
  simp only [Lit.wf, Bool.and_eq_true, decide_eq_true_eq] at h
  omega
theorem tm_pos {a : Int} (n : Int) (h : 0 ≤ a) : Int.tmod a n = a % n := Int.tmod_eq_emod_of_nonneg h
theorem tm_neg {a : Int} (n : Int) (h : a ≤ 0) : Int.tmod a n = -((-a) % n) := by
  have := Int.neg_tmod (-a) n
  rw [Int.neg_neg] at this
  rw [this, Int.tmod_eq_emod_of_nonneg (by omega)]
theorem td_pos {a : Int} (n : Int) (h : 0 ≤ a) : Int.tdiv a n = a / n := Int.tdiv_eq_ediv_of_nonneg h
theorem wr64 {a : Int} (h : -9223372036854775808 ≤ a ∧ a ≤ 9223372036854775807) : wrap64 a = a := by
  unfold wrap64
  omega
theorem dec_eq {p : Prop} [Decidable p] {b : Bool} (h : b = true ↔ p) : some b = some (decide p) := by
  rw [Option.some.injEq, Bool.eq_iff_iff, decide_eq_true_eq]
  exact h
theorem ite_dec (p q : Prop) [Decidable p] [Decidable q] : (if p then some (decide q) else some false) = some (decide (p ∧ q)) := by
  by_cases h : p <;> simp [h]
theorem beq_dec (a b : Int) : (a == b) = decide (a = b) := by
  rw [Bool.eq_iff_iff]
  simp

/-! ### addr0 -/
theorem in_f (a l h : Int) : spec_l01In.f a l h = some (decide (l ≤ a ∧ a ≤ h)) := by
  unfold spec_l01In.f
  by_cases h1 : a ≥ l
  · rw [if_pos h1]; congr 1; rw [decide_eq_decide]; omega
  · rw [if_neg h1]; congr 1; rw [eq_comm, decide_eq_false_iff_not]; omega

/-! ### addr -/
theorem addrOK_f (a : Int) : spec_l02AddrOK.f a = some (decide (0 ≤ a ∧ a ≤ 4294967295)) := by
  unfold spec_l02AddrOK.f
  rw [in_f]
  rfl
theorem isAddr_f (a : Int) : impl_isAddr.f a = some (decide (0 ≤ a ∧ a ≤ 4294967295)) := by
  unfold impl_isAddr.f
  by_cases h1 : a ≥ 0
  · rw [if_pos h1]; congr 1; rw [decide_eq_decide]; omega
  · rw [if_neg h1]; congr 1; rw [eq_comm, decide_eq_false_iff_not]; omega

/-! ### bits -/
theorem wraps_i64 (n : Int) (h₀ : 0 ≤ n) (h₁ : n < 2 ^ 63) : IntKind.i64.wrap n = n := by rw [IntKind.wrap_i64]; omega
/-- The low bits of any whole number. -/
theorem and_low (i : Nat) (hi : i ≤ 62) (x : Int) : Go.bits .and .i64 x (2 ^ i - 1) = x % 2 ^ i := by
  have hpos : 0 < 2 ^ i := Nat.two_pow_pos i
  have h62 : 2 ^ i ≤ 2 ^ 62 := Nat.pow_le_pow_right (by decide) hi
  have hc : ((2 : Int) ^ i - 1) = ((2 ^ i - 1 : Nat) : Int) := by
    rw [Int.natCast_sub hpos]; simp
  have hx0 : 0 ≤ x % 18446744073709551616 := Int.emod_nonneg _ (by decide)
  have hx : (BitVec.ofInt 64 x).toNat = (x % 18446744073709551616).toNat := by rw [BitVec.toNat_ofInt]; rfl
  have hd : ((2 : Int) ^ i) ∣ 18446744073709551616 := by
    rw [show (18446744073709551616 : Int) = 2 ^ 64 from rfl]
    exact ⟨2 ^ (64 - i), by rw [← Int.pow_add, show i + (64 - i) = 64 from by omega]⟩
  have h2 : ((x % 18446744073709551616).toNat % 2 ^ i : Nat) = (x % 2 ^ i).toNat := by
    apply Int.ofNat.inj
    have e1 : (((x % 18446744073709551616).toNat % 2 ^ i : Nat) : Int) = x % 2 ^ i := by
      rw [Int.natCast_emod, Int.toNat_of_nonneg hx0, Int.natCast_pow]
      exact Int.emod_emod_of_dvd _ hd
    have e2 : 0 ≤ x % 2 ^ i := Int.emod_nonneg _ (by have : (0 : Int) < 2 ^ i := Int.pow_pos (by decide); omega)
    exact e1.trans (Int.toNat_of_nonneg e2).symm
  have e2 : 0 ≤ x % 2 ^ i := Int.emod_nonneg _ (by have : (0 : Int) < 2 ^ i := Int.pow_pos (by decide); omega)
  have e3 : x % 2 ^ i < 2 ^ i := Int.emod_lt_of_pos _ (Int.pow_pos (by decide))
  have e4 : (2 : Int) ^ i ≤ 2 ^ 62 := by exact_mod_cast h62
  have key : Go.bits .and .i64 x (2 ^ i - 1) = IntKind.i64.wrap (((BitVec.ofInt 64 x).toNat &&& (BitVec.ofInt 64 ((2 ^ i - 1 : Nat) : Int)).toNat : Nat) : Int) := by
    rw [hc]
    show IntKind.i64.wrap ((BitVec.ofInt 64 x &&& BitVec.ofInt 64 ((2 ^ i - 1 : Nat) : Int)).toNat : Int) = _
    rw [BitVec.toNat_and]
  rw [key, hx]
  have hm : (BitVec.ofInt 64 ((2 ^ i - 1 : Nat) : Int)).toNat = 2 ^ i - 1 := by
    rw [BitVec.ofInt_natCast, BitVec.toNat_ofNat]
    exact Nat.mod_eq_of_lt (by omega)
  rw [hm, Nat.and_two_pow_sub_one_eq_mod, h2, Int.toNat_of_nonneg e2]
  exact wraps_i64 _ e2 (by omega)
theorem and_65535 (x : Int) : Go.bits .and .i64 x 65535 = x % 65536 := and_low 16 (by decide) x
theorem and_255 (x : Int) : Go.bits .and .i64 x 255 = x % 256 := and_low 8 (by decide) x
theorem nat_and_high (a n : Nat) (ha : a < 2 ^ 32) (hn : n ≤ 32) : a &&& ((2 ^ (32 - n) - 1) * 2 ^ n) = a / 2 ^ n * 2 ^ n := by
  apply Nat.eq_of_testBit_eq
  intro i
  rw [Nat.testBit_and, Nat.testBit_mul_two_pow, Nat.testBit_mul_two_pow, Nat.testBit_div_two_pow, Nat.testBit_two_pow_sub_one]
  by_cases h : n ≤ i
  · simp only [h, decide_true, Bool.true_and]
    rw [show i - n + n = i from by omega]
    by_cases h3 : i - n < 32 - n
    · simp [h3]
    · have : a.testBit i = false := Nat.testBit_lt_two_pow (Nat.lt_of_lt_of_le ha (Nat.pow_le_pow_right (by decide) (by omega)))
      simp [this]
  · simp [h]
theorem and_high (a : Int) (n : Nat) (h0 : 0 ≤ a) (h1 : a ≤ 4294967295) (hn : n ≤ 32) : Go.bits .and .i64 a ((2 ^ (32 - n) - 1) * 2 ^ n) = a / 2 ^ n * 2 ^ n := by
  obtain ⟨b, rfl⟩ := Int.eq_ofNat_of_zero_le h0
  have hc : (((2 : Int) ^ (32 - n) - 1) * 2 ^ n) = (((2 ^ (32 - n) - 1) * 2 ^ n : Nat) : Int) := by
    rw [Int.natCast_mul, Int.natCast_sub (Nat.two_pow_pos _)]; simp
  have hl : (2 ^ (32 - n) - 1) * 2 ^ n ≤ 4294967295 := by
    rw [Nat.sub_mul, ← Nat.pow_add, show 32 - n + n = 32 from by omega]
    have := Nat.two_pow_pos n
    omega
  rw [hc, (bits_nat .i64 63 (by decide) wraps_i64 b _ (by omega) (by omega)).1, nat_and_high b n (by omega) hn]
  simp

/-! ### prefix -/
theorem bits33 {b : Int} (h : 0 ≤ b ∧ b ≤ 32) : b = 0 ∨ b = 1 ∨ b = 2 ∨ b = 3 ∨ b = 4 ∨ b = 5 ∨ b = 6 ∨ b = 7 ∨ b = 8 ∨ b = 9 ∨ b = 10 ∨ b = 11 ∨ b = 12 ∨ b = 13 ∨ b = 14 ∨ b = 15 ∨ b = 16 ∨ b = 17 ∨ b = 18 ∨ b = 19 ∨ b = 20 ∨ b = 21 ∨ b = 22 ∨ b = 23 ∨ b = 24 ∨ b = 25 ∨ b = 26 ∨ b = 27 ∨ b = 28 ∨ b = 29 ∨ b = 30 ∨ b = 31 ∨ b = 32 := by omega
/-- How many addresses a prefix of so many bits has. -/
def sz (b : Int) : Int := 2 ^ (32 - b).toNat
theorem sz_pos (b : Int) : 0 < sz b := Int.pow_pos (by decide)
theorem sz_le {b : Int} (h : 0 ≤ b ∧ b ≤ 32) : sz b ≤ 4294967296 := by
  rcases bits33 h with rfl | rfl | rfl | rfl | rfl | rfl | rfl | rfl | rfl | rfl | rfl | rfl | rfl | rfl | rfl | rfl | rfl | rfl | rfl | rfl | rfl | rfl | rfl | rfl | rfl | rfl | rfl | rfl | rfl | rfl | rfl | rfl | rfl <;> decide
theorem size_f {b : Int} (h : 0 ≤ b ∧ b ≤ 32) {k : Nat} (hk : 40 ≤ k) : spec_l02Size.f k b = some (sz b) := by
  have h0 : spec_l02Size.f 40 b = some (sz b) := by
    rcases bits33 h with rfl | rfl | rfl | rfl | rfl | rfl | rfl | rfl | rfl | rfl | rfl | rfl | rfl | rfl | rfl | rfl | rfl | rfl | rfl | rfl | rfl | rfl | rfl | rfl | rfl | rfl | rfl | rfl | rfl | rfl | rfl | rfl | rfl <;> decide +kernel
  exact at_rounds (fun k => spec_l02Size.mono b k) hk h0
theorem mask_f {b : Int} (h : 0 ≤ b ∧ b ≤ 32) : impl_mask.f b = some ((2 ^ (32 - (32 - b).toNat) - 1) * 2 ^ (32 - b).toNat) := by
  rcases bits33 h with rfl | rfl | rfl | rfl | rfl | rfl | rfl | rfl | rfl | rfl | rfl | rfl | rfl | rfl | rfl | rfl | rfl | rfl | rfl | rfl | rfl | rfl | rfl | rfl | rfl | rfl | rfl | rfl | rfl | rfl | rfl | rfl | rfl <;> decide +kernel
theorem and_mask {a b : Int} (h : 0 ≤ b ∧ b ≤ 32) (ha : 0 ≤ a ∧ a ≤ 4294967295) : Go.bits .and .i64 a ((2 ^ (32 - (32 - b).toNat) - 1) * 2 ^ (32 - b).toNat) = a / sz b * sz b :=
  and_high a _ ha.1 ha.2 (by omega)
/-- A prefix is valid. -/
def okP (a b : Int) : Prop := (0 ≤ a ∧ a ≤ 4294967295) ∧ (0 ≤ b ∧ b ≤ 32) ∧ a % sz b = 0
instance (a b : Int) : Decidable (okP a b) := by unfold okP; exact inferInstance
theorem div_back {a s : Int} (hs : 0 < s) : (a / s * s = a) ↔ a % s = 0 := by
  have := Int.mul_ediv_add_emod a s
  rw [Int.mul_comm] at this
  omega
theorem specOK_f (a b : Int) {k : Nat} (hk : 40 ≤ k) : spec_l02PrefixOK.f k a b = some (decide (okP a b)) := by
  unfold spec_l02PrefixOK.f okP
  rw [addrOK_f, in_f]
  simp only [Option.bind_some]
  by_cases ha : 0 ≤ a ∧ a ≤ 4294967295
  · by_cases hb : 0 ≤ b ∧ b ≤ 32
    · rw [size_f hb hk]
      have := sz_pos b
      simp only [ha, hb, and_self, decide_true, if_true, Option.bind_some, true_and]
      rw [if_neg (by omega), tm_pos _ ha.1]
      congr 1
    · simp [ha, hb]
  · simp [ha]
theorem implOK_f (a b : Int) : impl_okPrefix.f a b = some (decide (okP a b)) := by
  unfold impl_okPrefix.f okP
  rw [isAddr_f]
  simp only [Option.bind_some]
  by_cases ha : 0 ≤ a ∧ a ≤ 4294967295
  · by_cases hb : 0 ≤ b ∧ b ≤ 32
    · rw [mask_f hb]
      have hs := sz_pos b
      simp only [ha, and_self, decide_true, if_true, Option.bind_some, true_and]
      rw [if_pos (by omega), if_pos (by omega), and_mask hb ha]
      simp only [hb, and_self, true_and]
      congr 1
      have := div_back (a := a) hs
      rw [Bool.eq_iff_iff]
      simp only [beq_iff_eq, decide_eq_true_eq]
      exact this
    · simp only [ha, hb, and_self, decide_true, if_true, false_and, and_false, decide_false]
      by_cases h1 : b ≥ 0
      · rw [if_pos h1, if_neg (by omega)]
      · rw [if_neg h1]
  · simp [ha]

/-! ### txt -/
def BA (l : List UInt8) : ByteArray := ⟨l.toArray⟩
theorem BA_data (l : List UInt8) : (BA l).data.toList = l := by simp [BA]
theorem BA_size (l : List UInt8) : (BA l).size = l.length := by simp [BA, ByteArray.size]
theorem BA_ext {a b : ByteArray} (h : a.data.toList = b.data.toList) : a = b := by
  obtain ⟨⟨a⟩⟩ := a
  obtain ⟨⟨b⟩⟩ := b
  simp at h
  rw [h]
theorem BA_of (s : ByteArray) : BA s.data.toList = s := BA_ext (BA_data _)
theorem BA_app (a b : List UInt8) : BA a ++ BA b = BA (a ++ b) := by
  apply BA_ext
  rw [BA_data]
  simp [BA, ByteArray.data_append]
theorem son_BA (l : List Int) : strOfNums l = BA (l.map fun n => UInt8.ofNat n.toNat) := by
  simp [strOfNums, BA]

/-! ### decf -/
theorem dec_f (n : Nat) : ∀ (k : Nat), n < k → n ≤ 100000000 → spec_l02Dec.f k (n : Int) = some (BA (Lib.decDigits n)) ∧ (Lib.decDigits n).length ≤ n + 1 := by
  induction n using Nat.strongRecOn with
  | _ n ih =>
    intro k hk hn
    obtain ⟨k, rfl⟩ : ∃ m, k = m + 1 := ⟨k - 1, by omega⟩
    by_cases h : n < 10
    · rw [spec_l02Dec.f, if_pos (by omega), Lib.decDigits_one h, wr64 (by omega), son_BA]
      refine ⟨?_, by simp⟩
      simp only [List.map_cons, List.map_nil]
      rw [show ((48 + (n : Int)) % 256).toNat = 48 + n from by omega]
    · obtain ⟨e, hl⟩ := ih (n / 10) (by omega) k (by omega) (by omega)
      have e2 : wrap64 (Int.tdiv (n : Int) 10) = ((n / 10 : Nat) : Int) := by rw [td_pos _ (by omega), wr64 (by omega)]; omega
      rw [spec_l02Dec.f, if_neg (by omega), e2, e, tm_pos _ (by omega), wr64 (a := 48 + (n : Int) % 10) (by omega), show Lib.decDigits n = Lib.decDigits (n / 10) ++ [UInt8.ofNat (48 + n % 10)] from by rw [Lib.decDigits, dif_neg h]]
      simp only [Option.bind_some]
      rw [son_BA, BA_size, BA_size, if_pos (by simp; omega), BA_app]
      simp only [List.map_cons, List.map_nil]
      rw [show ((48 + (n : Int) % 10) % 256).toNat = 48 + n % 10 from by omega]
      refine ⟨rfl, ?_⟩
      simp
      omega
theorem dec_i {a : Int} {k : Nat} (h : 0 ≤ a ∧ a < k ∧ a ≤ 100000000) : spec_l02Dec.f k a = some (BA (Lib.decDigits a.toNat)) := by
  obtain ⟨n, rfl⟩ := Int.eq_ofNat_of_zero_le h.1
  exact (dec_f n k (by omega) (by omega)).1
theorem dec_len {a : Nat} (h : a ≤ 100000000) : (Lib.decDigits a).length ≤ a + 1 := (dec_f a (a + 1) (by omega) h).2

/-! ### fmtint -/
theorem fmt_f {a : Int} (h : 0 ≤ a ∧ a ≤ 9223372036854775807) : strconv_FormatInt.f a 10 = some (BA (Lib.decDigits a.toNat)) := by
  obtain ⟨n, rfl⟩ := Int.eq_ofNat_of_zero_le h.1
  unfold strconv_FormatInt.f
  rw [if_pos (by omega), Lib.itoa_nonneg]
  rfl

/-! ### showaddr -/
/-- An address as a text. -/
def addrL (a : Int) : List UInt8 := Lib.decDigits (a / 16777216).toNat ++ [46] ++ Lib.decDigits (a / 65536 % 256).toNat ++ [46] ++ Lib.decDigits (a / 256 % 256).toNat ++ [46] ++ Lib.decDigits (a % 256).toNat
theorem showA_spec {a : Int} (h : 0 ≤ a ∧ a ≤ 4294967295) {k : Nat} (hk : 300 ≤ k) : spec_ShowAddr.f k a = some (BA (addrL a), 0) := by
  unfold spec_ShowAddr.f
  have l1 := dec_len (a := (a / 16777216).toNat) (by omega)
  have l2 := dec_len (a := (a / 65536 % 256).toNat) (by omega)
  have l3 := dec_len (a := (a / 256 % 256).toNat) (by omega)
  have l4 := dec_len (a := (a % 256).toNat) (by omega)
  rw [addrOK_f, decide_eq_true h, and_255, and_255, and_255, dec_i (a := a / 16777216) (by omega), dec_i (a := a / 65536 % 256) (by omega), dec_i (a := a / 256 % 256) (by omega), dec_i (a := a % 256) (by omega), show (⟨#[46]⟩ : ByteArray) = BA [46] from rfl]
  simp only [Option.bind_some, if_true, BA_app, BA_size, List.length_append, List.length_cons, List.length_nil]
  rw [if_pos (by omega), if_pos (by omega), if_pos (by omega), if_pos (by omega), if_pos (by omega), if_pos (by omega)]
  rfl
theorem showA_none {a : Int} (h : ¬ (0 ≤ a ∧ a ≤ 4294967295)) (k : Nat) : spec_ShowAddr.f k a = some (⟨#[]⟩, 1) := by
  unfold spec_ShowAddr.f
  rw [addrOK_f, decide_eq_false h]
  rfl
theorem shr_24 (a : Int) : shr .i64 a 24 = a / 16777216 := rfl
theorem shr_16 (a : Int) : shr .i64 a 16 = a / 65536 := rfl
theorem shr_8 (a : Int) : shr .i64 a 8 = a / 256 := rfl
theorem shr_0 (a : Int) : shr .i64 a 0 = a / 1 := rfl
theorem showA_loop {k : Nat} {a i : Int} {l : List ByteArray} {s : ByteArray} (h : 0 ≤ i ∧ i ≤ 64) (hl : l.length ≤ 100) (e : strconv_FormatInt.f (Go.bits .and .i64 (shr .i64 a i) 255) 10 = some s) : impl_ShowAddr.l0 (k + 1) a l i = impl_ShowAddr.l0 k a (l ++ [s]) (i - 8) := by
  rw [impl_ShowAddr.l0, if_pos h.1, if_pos h.1, e]
  simp only [Option.bind_some]
  rw [if_pos (by omega), wr64 (by omega)]
theorem showA_impl {a : Int} (h : 0 ≤ a ∧ a ≤ 4294967295) {k : Nat} (hk : 300 ≤ k) : impl_ShowAddr.f k a = some (BA (addrL a), 0) := by
  unfold impl_ShowAddr.f
  have l1 := dec_len (a := (a / 16777216).toNat) (by omega)
  have l2 := dec_len (a := (a / 65536 % 256).toNat) (by omega)
  have l3 := dec_len (a := (a / 256 % 256).toNat) (by omega)
  have l4 := dec_len (a := (a % 256).toNat) (by omega)
  rw [isAddr_f, decide_eq_true h]
  simp only [Option.bind_some, if_true]
  obtain ⟨k, rfl⟩ : ∃ m, k = m + 1 + 1 + 1 + 1 + 1 := ⟨k - 5, by omega⟩
  have f1 : strconv_FormatInt.f (Go.bits .and .i64 (shr .i64 a 24) 255) 10 = some (BA (Lib.decDigits (a / 16777216).toNat)) := by
    rw [shr_24, and_255, fmt_f (by omega), show a / 16777216 % 256 = a / 16777216 from by omega]
  have f2 : strconv_FormatInt.f (Go.bits .and .i64 (shr .i64 a 16) 255) 10 = some (BA (Lib.decDigits (a / 65536 % 256).toNat)) := by
    rw [shr_16, and_255, fmt_f (by omega)]
  have f3 : strconv_FormatInt.f (Go.bits .and .i64 (shr .i64 a 8) 255) 10 = some (BA (Lib.decDigits (a / 256 % 256).toNat)) := by
    rw [shr_8, and_255, fmt_f (by omega)]
  have f4 : strconv_FormatInt.f (Go.bits .and .i64 (shr .i64 a 0) 255) 10 = some (BA (Lib.decDigits (a % 256).toNat)) := by
    rw [shr_0, and_255, fmt_f (by omega), Int.ediv_one]
  rw [showA_loop (by omega) (by simp) f1, show (24 : Int) - 8 = 16 from rfl, showA_loop (by omega) (by simp) f2, show (16 : Int) - 8 = 8 from rfl, showA_loop (by omega) (by simp) f3, show (8 : Int) - 8 = 0 from rfl, showA_loop (by omega) (by simp) f4, impl_ShowAddr.l0, if_neg (by omega)]
  unfold strings_Join.f
  have ej : Lib.join ((([] ++ [BA (Lib.decDigits (a / 16777216).toNat)] ++ [BA (Lib.decDigits (a / 65536 % 256).toNat)] ++ [BA (Lib.decDigits (a / 256 % 256).toNat)] ++ [BA (Lib.decDigits (a % 256).toNat)]).map fun x : ByteArray => x.data.toList)) (⟨#[46]⟩ : ByteArray).data.toList = addrL a := by
    simp only [List.nil_append, List.cons_append, List.map_cons, List.map_nil, BA_data]
    unfold Lib.join addrL
    simp [List.intercalate, List.intersperse]
  rw [ej, if_pos ⟨by simp, by unfold addrL; simp only [List.length_append, List.length_cons, List.length_nil]; omega⟩]
  rfl
theorem showA_impl_none {a : Int} (h : ¬ (0 ≤ a ∧ a ≤ 4294967295)) (k : Nat) : impl_ShowAddr.f k a = some (⟨#[]⟩, 1) := by
  unfold impl_ShowAddr.f
  rw [isAddr_f, decide_eq_false h]
  rfl

/-! ### showprefix -/
/-- A prefix as a text. -/
def prefixL (a b : Int) : List UInt8 := addrL a ++ [47] ++ Lib.decDigits b.toNat
theorem addrL_len {a : Int} (h : 0 ≤ a ∧ a ≤ 4294967295) : (addrL a).length ≤ 1100 := by
  have l1 := dec_len (a := (a / 16777216).toNat) (by omega)
  have l2 := dec_len (a := (a / 65536 % 256).toNat) (by omega)
  have l3 := dec_len (a := (a / 256 % 256).toNat) (by omega)
  have l4 := dec_len (a := (a % 256).toNat) (by omega)
  unfold addrL
  simp only [List.length_append, List.length_cons, List.length_nil]
  omega
theorem showP_spec {a b : Int} (h : okP a b) {k : Nat} (hk : 300 ≤ k) : spec_ShowPrefix.f k a b = some (BA (prefixL a b), 0) := by
  unfold spec_ShowPrefix.f
  have l1 := addrL_len h.1
  have hb := h.2.1
  have l2 := dec_len (a := b.toNat) (by omega)
  rw [specOK_f _ _ (by omega), decide_eq_true h, showA_spec h.1 hk, dec_i (a := b) (by omega), show (⟨#[47]⟩ : ByteArray) = BA [47] from rfl]
  simp only [Option.bind_some, if_true, BA_app, BA_size, List.length_append, List.length_cons, List.length_nil]
  rw [if_pos (by omega), if_pos (by omega)]
  rfl
theorem showP_none {a b : Int} (h : ¬ okP a b) {k : Nat} (hk : 300 ≤ k) : spec_ShowPrefix.f k a b = some (⟨#[]⟩, 1) := by
  unfold spec_ShowPrefix.f
  rw [specOK_f _ _ (by omega), decide_eq_false h]
  rfl
theorem showP_impl {a b : Int} (h : okP a b) {k : Nat} (hk : 300 ≤ k) : impl_ShowPrefix.f k a b = some (BA (prefixL a b), 0) := by
  unfold impl_ShowPrefix.f
  have l1 := addrL_len h.1
  have hb := h.2.1
  have l2 := dec_len (a := b.toNat) (by omega)
  rw [implOK_f, decide_eq_true h, showA_impl h.1 hk, fmt_f (a := b) (by omega), show (⟨#[47]⟩ : ByteArray) = BA [47] from rfl]
  simp only [Option.bind_some, if_true, BA_app, BA_size, List.length_append, List.length_cons, List.length_nil]
  rw [if_pos (by omega), if_pos (by omega)]
  rfl
theorem showP_impl_none {a b : Int} (h : ¬ okP a b) {k : Nat} (hk : 300 ≤ k) : impl_ShowPrefix.f k a b = some (⟨#[]⟩, 1) := by
  unfold impl_ShowPrefix.f
  rw [implOK_f, decide_eq_false h]
  rfl

/-! ### lists -/
theorem rd_at {xs : List Int} {i : Nat} (h : i < xs.length) : rd xs (i : Int) = xs[i] := by
  unfold rd
  rw [Int.toNat_natCast, List.getD_eq_getElem?_getD, List.getElem?_eq_getElem h]
  rfl
theorem wr_succ {i n : Nat} (h : i < n) (hn : n ≤ 281474976710656) : wrap64 ((i : Int) + 1) = ((i + 1 : Nat) : Int) := by
  rw [wr64 (by omega)]
  omega
theorem maxLen_le {n : Nat} (h : n ≤ 1048576) : n ≤ 281474976710656 := by omega

/-! ### kind -/
theorem kind_eq (a : Int) : spec_AddrKind.f a = impl_AddrKind.f a := by
  unfold spec_AddrKind.f impl_AddrKind.f
  rw [addrOK_f, isAddr_f]
  simp only [Option.bind_some]
  by_cases h : 0 ≤ a ∧ a ≤ 4294967295
  · simp only [h, and_self, decide_true, if_true]
    repeat' split
    all_goals first | rfl | omega
  · simp [h]
theorem kind_some (a : Int) : ∃ r, impl_AddrKind.f a = some r := by
  unfold impl_AddrKind.f
  rw [isAddr_f]
  simp only [Option.bind_some]
  repeat' split
  all_goals exact ⟨_, rfl⟩

/-! ### routeok -/
def okV (a : Int) : Bool := impl_AddrKind.f a == some 6
def okR (r : S74) : Bool := decide (okP r.f0.f0 r.f0.f1) && (decide (r.f1 = 0) || okV r.f1) && decide (0 ≤ r.f2 ∧ r.f2 ≤ 7) && decide (0 ≤ r.f3 ∧ r.f3 ≤ 1000000)
theorem specR_f (r : S74) {k : Nat} (hk : 40 ≤ k) : spec_l08OK.f k r.f0.f0 r.f0.f1 r.f1 r.f2 r.f3 = some (okR r) := by
  unfold spec_l08OK.f okR okV
  rw [specOK_f _ _ hk, kind_eq]
  obtain ⟨q, hq⟩ := kind_some r.f1
  rw [hq]
  simp only [in_f, Option.bind_some]
  by_cases h1 : okP r.f0.f0 r.f0.f1
  · by_cases h2 : r.f1 = 0
    · by_cases h3 : 0 ≤ r.f2 ∧ r.f2 ≤ 7 <;> simp [h1, h2, h3]
    · by_cases h4 : q = 6
      · by_cases h3 : 0 ≤ r.f2 ∧ r.f2 ≤ 7 <;> simp [h1, h2, h3, h4]
      · simp [h1, h2, h4]
  · simp [h1]
theorem implR_f (r : S74) : impl_okRoute.f r.f0.f0 r.f0.f1 r.f1 r.f2 r.f3 = some (okR r) := by
  unfold impl_okRoute.f okR okV
  rw [implOK_f]
  obtain ⟨q, hq⟩ := kind_some r.f1
  rw [hq]
  simp only [Option.bind_some]
  have e : (if r.f2 ≥ 0 then (if r.f2 ≤ 7 then (if r.f3 ≥ 0 then (some (decide (r.f3 ≤ 1000000))) else (some false)) else (some false)) else (some false)) = some (decide (0 ≤ r.f2 ∧ r.f2 ≤ 7) && decide (0 ≤ r.f3 ∧ r.f3 ≤ 1000000)) := by
    by_cases h1 : r.f2 ≥ 0 <;> by_cases h2 : r.f2 ≤ 7 <;> by_cases h3 : r.f3 ≥ 0 <;> simp [h1, h2, h3]
  rw [e]
  by_cases h1 : okP r.f0.f0 r.f0.f1
  · by_cases h2 : r.f1 = 0
    · simp [h1, h2]
    · by_cases h4 : q = 6 <;> simp [h1, h2, h4]
  · simp [h1]
theorem rdR {l : List S74} {i : Nat} (h : i < l.length) : rd_T74 l (i : Int) = l[i] := by
  unfold rd_T74
  rw [Int.toNat_natCast, List.getD_eq_getElem?_getD, List.getElem?_eq_getElem h]
  rfl

/-! ### showroute -/
def viaL (a : Int) : List UInt8 := if a = 0 then [] else [32, 118, 105, 97, 32] ++ addrL a
def metricL (a : Int) : List UInt8 := if a = 0 then [] else [32, 109, 101, 116, 114, 105, 99, 32] ++ Lib.decDigits a.toNat
def routeL (r : S74) : List UInt8 := prefixL r.f0.f0 r.f0.f1 ++ viaL r.f1 ++ [32, 108, 105, 110, 107, 32] ++ Lib.decDigits r.f2.toNat ++ metricL r.f3
theorem okV_addr {a : Int} (h : okV a = true) : 0 ≤ a ∧ a ≤ 4294967295 := by
  unfold okV impl_AddrKind.f at h
  rw [isAddr_f] at h
  simp only [Option.bind_some] at h
  by_cases h1 : 0 ≤ a ∧ a ≤ 4294967295
  · exact h1
  · rw [decide_eq_false h1] at h
    simp at h
theorem okR_parts {r : S74} (h : okR r = true) : okP r.f0.f0 r.f0.f1 ∧ (r.f1 = 0 ∨ 0 ≤ r.f1 ∧ r.f1 ≤ 4294967295) ∧ (0 ≤ r.f2 ∧ r.f2 ≤ 7) ∧ (0 ≤ r.f3 ∧ r.f3 ≤ 1000000) := by
  unfold okR at h
  simp only [Bool.and_eq_true, Bool.or_eq_true, decide_eq_true_eq] at h
  obtain ⟨⟨⟨h1, h2⟩, h3⟩, h4⟩ := h
  exact ⟨h1, h2.imp id okV_addr, h3, h4⟩
theorem routeL_len {r : S74} (h : okR r = true) : (routeL r).length ≤ 2000000 ∧ (prefixL r.f0.f0 r.f0.f1).length ≤ 1200 ∧ (Lib.decDigits r.f2.toNat).length ≤ 8 ∧ (Lib.decDigits r.f3.toNat).length ≤ 1000001 ∧ (viaL r.f1).length ≤ 1105 := by
  obtain ⟨h1, h2, h3, h4⟩ := okR_parts h
  have l1 := addrL_len h1.1
  have hb := h1.2.1
  have l2 := dec_len (a := r.f0.f1.toNat) (by omega)
  have l3 := dec_len (a := r.f2.toNat) (by omega)
  have l4 := dec_len (a := r.f3.toNat) (by omega)
  have l5 : (prefixL r.f0.f0 r.f0.f1).length ≤ 1200 := by
    unfold prefixL
    simp only [List.length_append, List.length_cons, List.length_nil]
    omega
  have l6 : (viaL r.f1).length ≤ 1105 := by
    unfold viaL
    split
    · simp
    · have := addrL_len (a := r.f1) (by omega)
      simp only [List.length_append, List.length_cons, List.length_nil]
      omega
  have l7 : (metricL r.f3).length ≤ 1000010 := by
    unfold metricL
    split
    · simp
    · simp only [List.length_append, List.length_cons, List.length_nil]
      omega
  refine ⟨?_, l5, by omega, by omega, l6⟩
  unfold routeL
  simp only [List.length_append, List.length_cons, List.length_nil]
  omega
theorem lit_link : (⟨#[32, 108, 105, 110, 107, 32]⟩ : ByteArray) = BA [32, 108, 105, 110, 107, 32] := rfl
theorem lit_via : (⟨#[32, 118, 105, 97, 32]⟩ : ByteArray) = BA [32, 118, 105, 97, 32] := rfl
theorem lit_metric : (⟨#[32, 109, 101, 116, 114, 105, 99, 32]⟩ : ByteArray) = BA [32, 109, 101, 116, 114, 105, 99, 32] := rfl
theorem lit_nl : (⟨#[10]⟩ : ByteArray) = BA [10] := rfl
theorem lit_none : (⟨#[]⟩ : ByteArray) = BA [] := rfl
theorem showR_impl {r : S74} (h : okR r = true) {k : Nat} (hk : 300 ≤ k) : impl_showRoute.f k r.f0.f0 r.f0.f1 r.f1 r.f2 r.f3 = some (BA (routeL r)) := by
  obtain ⟨h1, h2, h3, h4⟩ := okR_parts h
  obtain ⟨l0, l1, l2, l3, l4⟩ := routeL_len h
  unfold impl_showRoute.f
  rw [showP_impl h1 hk, fmt_f (a := r.f2) (by omega), fmt_f (a := r.f3) (by omega), lit_link, lit_via, lit_metric]
  unfold routeL viaL metricL
  unfold viaL at l4
  by_cases e1 : r.f1 = 0
  · by_cases e2 : r.f3 = 0
    · simp only [e1, e2, if_true, Option.bind_some, BA_app, BA_size, List.length_append, List.length_cons, List.length_nil]
      rw [if_pos (by omega), if_pos (by omega)]
      simp
    · simp only [e1, e2, if_true, if_false, Option.bind_some, BA_app, BA_size, List.length_append, List.length_cons, List.length_nil]
      rw [if_pos (by omega), if_pos (by omega), if_pos (by omega), if_pos (by omega)]
      simp
  · rw [showA_impl (a := r.f1) (by omega) hk]
    rw [if_neg e1] at l4
    simp only [List.length_append, List.length_cons, List.length_nil] at l4
    by_cases e2 : r.f3 = 0
    · simp only [e1, e2, if_true, if_false, Option.bind_some, BA_app, BA_size, List.length_append, List.length_cons, List.length_nil]
      rw [if_pos (by omega), if_pos (by omega), if_pos (by omega), if_pos (by omega)]
      simp
    · simp only [e1, e2, if_false, Option.bind_some, BA_app, BA_size, List.length_append, List.length_cons, List.length_nil]
      rw [if_pos (by omega), if_pos (by omega), if_pos (by omega), if_pos (by omega), if_pos (by omega), if_pos (by omega)]
      simp
theorem showR_istep (l : List S74) {k i : Nat} (hi : i < l.length) (hn : l.length ≤ 64) (hk : 300 ≤ k) (acc : List UInt8) (ha : acc.length ≤ 1000000000000) : impl_ShowRoutes.l0 (k + 1) (BA acc) l (l.length : Int) (i : Int) = if okR l[i] = true then impl_ShowRoutes.l0 k (BA (acc ++ routeL l[i] ++ [10])) l (l.length : Int) ((i + 1 : Nat) : Int) else some (BA [], 1) := by
  rw [impl_ShowRoutes.l0, if_pos (by omega), if_pos (by omega), if_pos (by omega), rdR hi, implR_f, lit_nl, wr_succ hi (by omega)]
  simp only [Option.bind_some]
  by_cases h : okR l[i] = true
  · have hl := (routeL_len h).1
    rw [if_pos h, if_pos h, showR_impl h hk]
    simp only [Option.bind_some, BA_app, BA_size, List.length_append, List.length_cons, List.length_nil]
    rw [if_pos (by omega), if_pos (by omega), List.append_assoc]
  · rw [if_neg h, if_neg h]
    rfl
theorem showR_sstep (l : List S74) {k i : Nat} (hi : i < l.length) (hn : l.length ≤ 64) (hk : 1000300 ≤ k) (acc : List UInt8) (ha : acc.length ≤ 1000000000000) : spec_ShowRoutes.l0 (k + 1) l (BA acc) (i : Int) = if okR l[i] = true then spec_ShowRoutes.l0 k l (BA (acc ++ routeL l[i] ++ [10])) ((i + 1 : Nat) : Int) else some (BA [], 1) := by
  rw [spec_ShowRoutes.l0, if_pos (by omega), if_pos (by omega), rdR hi, specR_f _ (by omega), wr_succ hi (by omega)]
  simp only [Option.bind_some]
  by_cases h : okR l[i] = true
  · rw [if_pos h, if_pos h]
    generalize l[i] = r at h
    obtain ⟨h1, h2, h3, h4⟩ := okR_parts h
    obtain ⟨l0, l1, l2, l3, l4⟩ := routeL_len h
    rw [showP_spec h1 (by omega), dec_i (a := r.f2) (by omega), dec_i (a := r.f3) (by omega), lit_link, lit_via, lit_metric, lit_nl]
    unfold routeL viaL metricL
    unfold viaL at l4
    by_cases e1 : r.f1 = 0
    · by_cases e2 : r.f3 = 0
      · simp only [e1, e2, if_true, Option.bind_some, BA_app, BA_size, List.length_append, List.length_cons, List.length_nil]
        rw [if_pos (by omega), if_pos (by omega), if_pos (by omega), if_pos (by omega)]
        simp
      · simp only [e1, e2, if_true, if_false, Option.bind_some, BA_app, BA_size, List.length_append, List.length_cons, List.length_nil]
        rw [if_pos (by omega), if_pos (by omega), if_pos (by omega), if_pos (by omega), if_pos (by omega), if_pos (by omega)]
        simp
    · rw [showA_spec (a := r.f1) (by omega) (by omega)]
      rw [if_neg e1] at l4
      simp only [List.length_append, List.length_cons, List.length_nil] at l4
      by_cases e2 : r.f3 = 0
      · simp only [e1, e2, if_true, if_false, Option.bind_some, BA_app, BA_size, List.length_append, List.length_cons, List.length_nil]
        rw [if_pos (by omega), if_pos (by omega), if_pos (by omega), if_pos (by omega), if_pos (by omega), if_pos (by omega)]
        simp
      · simp only [e1, e2, if_false, Option.bind_some, BA_app, BA_size, List.length_append, List.length_cons, List.length_nil]
        rw [if_pos (by omega), if_pos (by omega), if_pos (by omega), if_pos (by omega), if_pos (by omega), if_pos (by omega), if_pos (by omega), if_pos (by omega)]
        simp
  · rw [if_neg h, if_neg h]
    rfl
theorem showR_l (l : List S74) (hn : l.length ≤ 64) (d : Nat) : ∀ (k i : Nat) (acc : List UInt8), i + d = l.length → d + 1000300 < k → acc.length ≤ i * 2000001 → ∃ r, impl_ShowRoutes.l0 k (BA acc) l (l.length : Int) (i : Int) = some r ∧ spec_ShowRoutes.l0 k l (BA acc) (i : Int) = some r := by
  induction d with
  | zero =>
    intro k i acc hi hk ha
    obtain ⟨k, rfl⟩ : ∃ m, k = m + 1 := ⟨k - 1, by omega⟩
    rw [impl_ShowRoutes.l0, spec_ShowRoutes.l0, if_neg (by omega), if_neg (by omega)]
    exact ⟨_, rfl, rfl⟩
  | succ d ih =>
    intro k i acc hi hk ha
    obtain ⟨k, rfl⟩ : ∃ m, k = m + 1 := ⟨k - 1, by omega⟩
    rw [showR_istep l (by omega) hn (by omega) acc (by omega), showR_sstep l (by omega) hn (by omega) acc (by omega)]
    by_cases h : okR l[i] = true
    · rw [if_pos h, if_pos h]
      have hl := (routeL_len h).1
      exact ih k (i + 1) _ (by omega) (by omega) (by simp only [List.length_append, List.length_cons, List.length_nil]; omega)
    · rw [if_neg h, if_neg h]
      exact ⟨_, rfl, rfl⟩
theorem showR_f (l : List S74) {k : Nat} (hk : 1000400 < k) : ∃ r, impl_ShowRoutes.f k l = some r ∧ spec_ShowRoutes.f k l = some r := by
  unfold impl_ShowRoutes.f spec_ShowRoutes.f
  by_cases h : (l.length : Int) > 64
  · rw [if_pos h, if_pos h]
    exact ⟨_, rfl, rfl⟩
  · rw [if_neg h, if_neg h, lit_none]
    exact showR_l l (by omega) l.length k 0 [] (by omega) (by omega) (by simp)

/-! ### routes -/
def cvR (x : S78) : S74 := ⟨⟨x.f0.f0, x.f0.f1⟩, x.f1, x.f2, x.f3⟩
theorem toR_l (x0 : List S78) (hn : x0.length ≤ 1048576) (d : Nat) : ∀ (k i : Nat) (x3 : List S74), i + d = x0.length → d < k → x3.length = x0.length → (∀ j, j < i → x3[j]? = (x0.map cvR)[j]?) → laws_toRouteS.l0 k x0 x3 (i : Int) = some (x0.map cvR) := by
  induction d with
  | zero =>
    intro k i x3 hi hk hl he
    obtain ⟨k, rfl⟩ : ∃ m, k = m + 1 := ⟨k - 1, by omega⟩
    simp only [laws_toRouteS.l0]
    rw [if_neg (by omega)]
    congr 1
    apply List.ext_getElem?
    intro j
    by_cases hj : j < i
    · exact he j hj
    · rw [List.getElem?_eq_none (by omega), List.getElem?_eq_none (by rw [List.length_map]; omega)]
  | succ d ih =>
    intro k i x3 hi hk hl he
    obtain ⟨k, rfl⟩ : ∃ m, k = m + 1 := ⟨k - 1, by omega⟩
    simp only [laws_toRouteS.l0, laws_toRoute.f, laws_toPrefix.f, Option.bind_some]
    rw [if_pos (by omega), if_pos (by omega), if_pos (by omega), wr_succ (n := x0.length) (by omega) (by omega)]
    refine ih k (i + 1) _ (by omega) (by omega) (by simp [hl]) ?_
    intro j hj
    rw [Int.toNat_natCast]
    by_cases e : j = i
    · subst e
      rw [List.getElem?_set_self (by omega), List.getElem?_map, List.getElem?_eq_getElem (show j < x0.length by omega)]
      unfold rd_T78 cvR
      rw [Int.toNat_natCast, List.getD_eq_getElem?_getD, List.getElem?_eq_getElem (show j < x0.length by omega)]
      rfl
    · rw [List.getElem?_set_ne (by omega)]
      exact he j (by omega)
theorem toR_f {l : List S78} (hn : l.length ≤ 1048576) {k : Nat} (hk : l.length < k) : laws_toRouteS.f k l = some (l.map cvR) := by
  unfold laws_toRouteS.f
  rw [if_pos (by omega), if_pos (by rw [Int.toNat_natCast]; omega), Int.toNat_natCast]
  exact toR_l l hn l.length k 0 _ (by omega) hk (by simp) (fun j hj => absurd hj (by omega))
theorem eqRt_same (a b c d e : Int) : laws_eqRoute.f a b c d e a b c d e = some true := by
  unfold laws_eqRoute.f laws_eqPrefix.f
  simp
theorem eqR_l (x : List S74) (hn : x.length ≤ 1048576) (d : Nat) : ∀ (k i : Nat), i + d = x.length → d < k → laws_eqRouteS.l0 k x x (i : Int) = some true := by
  induction d with
  | zero =>
    intro k i hi hk
    obtain ⟨k, rfl⟩ : ∃ m, k = m + 1 := ⟨k - 1, by omega⟩
    simp only [laws_eqRouteS.l0]
    rw [if_neg (by omega)]
  | succ d ih =>
    intro k i hi hk
    obtain ⟨k, rfl⟩ : ∃ m, k = m + 1 := ⟨k - 1, by omega⟩
    simp only [laws_eqRouteS.l0, eqRt_same, if_true, Option.bind_some]
    rw [if_pos (by omega), if_pos (by omega), if_pos (by omega), wr_succ (n := x.length) (by omega) (by omega)]
    exact ih k (i + 1) (by omega) (by omega)
theorem eqR_same {l : List S74} (hn : l.length ≤ 1048576) {k : Nat} (hk : l.length < k) : laws_eqRouteS.f k l l = some true := by
  unfold laws_eqRouteS.f
  rw [if_pos rfl]
  exact eqR_l l hn l.length k 0 (by omega) hk

/-! ### the law -/
theorem FnExactShowRoutes (l : List S78) (hl : l.length ≤ maxLen) (hlw : ∀ x ∈ l, ((Lit.int .i64 x.f0.f0).wf = true ∧ (Lit.int .i64 x.f0.f1).wf = true ∧ (Lit.int .i64 x.f1).wf = true ∧ (Lit.int .i64 x.f2).wf = true ∧ (Lit.int .i64 x.f3).wf = true)) : ∃ k, laws_FnExactShowRoutes.f k l = some true := by
  have hl2 : l.length ≤ 9223372036854775807 := by unfold maxLen at hl; exact hl
  by_cases h : (l.length : Int) > 1048576
  · refine ⟨0, ?_⟩
    unfold laws_FnExactShowRoutes.f laws_szRouteS.f
    rw [wr64 (by omega), if_pos (by omega)]
    simp only [Option.bind_some]
    rw [if_pos (by omega)]
  · have hn : l.length ≤ 1048576 := by omega
    have hm : (l.map cvR).length ≤ 1048576 := by rw [List.length_map]; exact hn
    obtain ⟨k, hk⟩ : ∃ k, k = 1000400 + l.length + 1 := ⟨_, rfl⟩
    refine ⟨k + 1, ?_⟩
    obtain ⟨r, e1, e2⟩ := showR_f (l.map cvR) (k := k + 1) (by omega)
    unfold laws_FnExactShowRoutes.f laws_szRouteS.f
    rw [wr64 (by omega), if_neg (by omega)]
    simp only [Option.bind_some]
    rw [if_neg (by omega), toR_f hn (by omega)]
    simp only [Option.bind_some]
    rw [e1, e2]
    simp only [Option.bind_some, if_true, laws_FnExactShowRoutes.j0, bne_self_eq_false, Bool.false_eq_true, if_false]
    rw [toR_f hn (by omega)]
    simp only [Option.bind_some]
    rw [eqR_same hm (by rw [List.length_map]; omega)]
    rfl

end Go.Proofs.YtnnplkhjmdbmbaaDoor.Pure
