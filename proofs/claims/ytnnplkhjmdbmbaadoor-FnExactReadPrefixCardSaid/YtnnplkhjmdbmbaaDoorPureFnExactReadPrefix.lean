/- The program's ReadPrefix answers as the reference's, for every text; without conditions. -/
import Derived.Test.YtnnplkhjmdbmbaaDoorPFnExactReadPrefixx3
set_option linter.unusedVariables false
set_option linter.unusedSimpArgs false
namespace Go.Proofs.YtnnplkhjmdbmbaaDoor.Pure
open Go.RowKit Go.Proofs.YtnnplkhjmdbmbaaDoor.PFnExactReadPrefix Go.Proofs.YtnnplkhjmdbmbaaDoorW.PrintWords Go.Proofs.YtnnplkhjmdbmbaaDoorW.PrintLast

/-! ### base -/
theorem wf64 {a : Int} (h : (Lit.int .i64 a).wf = true) : -9223372036854775808 ≤ a ∧ a ≤ 9223372036854775807 := by
  have h1 : IntKind.i64.min = -9223372036854775808 := by decide
  have h2 : IntKind.i64.max = 9223372036854775807 := by decide
  simp only [Lit.wf, Bool.and_eq_true, decide_eq_true_eq] at h
  omega
theorem tm_pos {a : Int} (n : Int) (h : 0 ≤ a) : Int.tmod a n = a % n := Int.tmod_eq_emod_of_nonneg h
theorem tm_neg {a : Int} (n : Int) (h : a ≤ 0) : Int.tmod a n = -((-a) % n) := by
  have := Int.neg_tmod (-a) n
  rw [Int.neg_neg] at this
  rw [this, Int.tmod_eq_emod_of_nonneg (by omega)]
theorem td_pos {a : Int} (n : Int) (h : 0 ≤ a) : Int.tdiv a n = a / n := Int.tdiv_eq_ediv_of_nonneg h
theorem wr64 {a : Int} (h : -9223372036854775808 ≤ a ∧ a ≤ 9223372036854775807) : wrap64 a = a := by
  unfold wrap64
  omega
theorem dec_eq {p : Prop} [Decidable p] {b : Bool} (h : b = true ↔ p) : some b = some (decide p) := by
  rw [Option.some.injEq, Bool.eq_iff_iff, decide_eq_true_eq]
  exact h
theorem ite_dec (p q : Prop) [Decidable p] [Decidable q] : (if p then some (decide q) else some false) = some (decide (p ∧ q)) := by
  by_cases h : p <;> simp [h]
theorem beq_dec (a b : Int) : (a == b) = decide (a = b) := by
  rw [Bool.eq_iff_iff]
  simp

/-! ### addr0 -/
theorem in_f (a l h : Int) : spec_l01In.f a l h = some (decide (l ≤ a ∧ a ≤ h)) := by
  unfold spec_l01In.f
  by_cases h1 : a ≥ l
  · rw [if_pos h1]; congr 1; rw [decide_eq_decide]; omega
  · rw [if_neg h1]; congr 1; rw [eq_comm, decide_eq_false_iff_not]; omega

/-! ### addr -/
theorem addrOK_f (a : Int) : spec_l02AddrOK.f a = some (decide (0 ≤ a ∧ a ≤ 4294967295)) := by
  unfold spec_l02AddrOK.f
  rw [in_f]
  rfl
theorem isAddr_f (a : Int) : impl_isAddr.f a = some (decide (0 ≤ a ∧ a ≤ 4294967295)) := by
  unfold impl_isAddr.f
  by_cases h1 : a ≥ 0
  · rw [if_pos h1]; congr 1; rw [decide_eq_decide]; omega
  · rw [if_neg h1]; congr 1; rw [eq_comm, decide_eq_false_iff_not]; omega

/-! ### bits -/
theorem wraps_i64 (n : Int) (h₀ : 0 ≤ n) (h₁ : n < 2 ^ 63) : IntKind.i64.wrap n = n := by rw [IntKind.wrap_i64]; omega
/-- The low bits of any whole number. -/
theorem and_low (i : Nat) (hi : i ≤ 62) (x : Int) : Go.bits .and .i64 x (2 ^ i - 1) = x % 2 ^ i := by
  have hpos : 0 < 2 ^ i := Nat.two_pow_pos i
  have h62 : 2 ^ i ≤ 2 ^ 62 := Nat.pow_le_pow_right (by decide) hi
  have hc : ((2 : Int) ^ i - 1) = ((2 ^ i - 1 : Nat) : Int) := by
    rw [Int.natCast_sub hpos]; simp
  have hx0 : 0 ≤ x % 18446744073709551616 := Int.emod_nonneg _ (by decide)
  have hx : (BitVec.ofInt 64 x).toNat = (x % 18446744073709551616).toNat := by rw [BitVec.toNat_ofInt]; rfl
  have hd : ((2 : Int) ^ i) ∣ 18446744073709551616 := by
    rw [show (18446744073709551616 : Int) = 2 ^ 64 from rfl]
    exact ⟨2 ^ (64 - i), by rw [← Int.pow_add, show i + (64 - i) = 64 from by omega]⟩
  have h2 : ((x % 18446744073709551616).toNat % 2 ^ i : Nat) = (x % 2 ^ i).toNat := by
    apply Int.ofNat.inj
    have e1 : (((x % 18446744073709551616).toNat % 2 ^ i : Nat) : Int) = x % 2 ^ i := by
      rw [Int.natCast_emod, Int.toNat_of_nonneg hx0, Int.natCast_pow]
      exact Int.emod_emod_of_dvd _ hd
    have e2 : 0 ≤ x % 2 ^ i := Int.emod_nonneg _ (by have : (0 : Int) < 2 ^ i := Int.pow_pos (by decide); omega)
    exact e1.trans (Int.toNat_of_nonneg e2).symm
  have e2 : 0 ≤ x % 2 ^ i := Int.emod_nonneg _ (by have : (0 : Int) < 2 ^ i := Int.pow_pos (by decide); omega)
  have e3 : x % 2 ^ i < 2 ^ i := Int.emod_lt_of_pos _ (Int.pow_pos (by decide))
  have e4 : (2 : Int) ^ i ≤ 2 ^ 62 := by exact_mod_cast h62
  have key : Go.bits .and .i64 x (2 ^ i - 1) = IntKind.i64.wrap (((BitVec.ofInt 64 x).toNat &&& (BitVec.ofInt 64 ((2 ^ i - 1 : Nat) : Int)).toNat : Nat) : Int) := by
    rw [hc]
    show IntKind.i64.wrap ((BitVec.ofInt 64 x &&& BitVec.ofInt 64 ((2 ^ i - 1 : Nat) : Int)).toNat : Int) = _
    rw [BitVec.toNat_and]
  rw [key, hx]
  have hm : (BitVec.ofInt 64 ((2 ^ i - 1 : Nat) : Int)).toNat = 2 ^ i - 1 := by
    rw [BitVec.ofInt_natCast, BitVec.toNat_ofNat]
    exact Nat.mod_eq_of_lt (by omega)
  rw [hm, Nat.and_two_pow_sub_one_eq_mod, h2, Int.toNat_of_nonneg e2]
  exact wraps_i64 _ e2 (by omega)
theorem and_65535 (x : Int) : Go.bits .and .i64 x 65535 = x % 65536 := and_low 16 (by decide) x
theorem and_255 (x : Int) : Go.bits .and .i64 x 255 = x % 256 := and_low 8 (by decide) x
theorem nat_and_high (a n : Nat) (ha : a < 2 ^ 32) (hn : n ≤ 32) : a &&& ((2 ^ (32 - n) - 1) * 2 ^ n) = a / 2 ^ n * 2 ^ n := by
  apply Nat.eq_of_testBit_eq
  intro i
  rw [Nat.testBit_and, Nat.testBit_mul_two_pow, Nat.testBit_mul_two_pow, Nat.testBit_div_two_pow, Nat.testBit_two_pow_sub_one]
  by_cases h : n ≤ i
  · simp only [h, decide_true, Bool.true_and]
    rw [show i - n + n = i from by omega]
    by_cases h3 : i - n < 32 - n
    · simp [h3]
    · have : a.testBit i = false := Nat.testBit_lt_two_pow (Nat.lt_of_lt_of_le ha (Nat.pow_le_pow_right (by decide) (by omega)))
      simp [this]
  · simp [h]
theorem and_high (a : Int) (n : Nat) (h0 : 0 ≤ a) (h1 : a ≤ 4294967295) (hn : n ≤ 32) : Go.bits .and .i64 a ((2 ^ (32 - n) - 1) * 2 ^ n) = a / 2 ^ n * 2 ^ n := by
  obtain ⟨b, rfl⟩ := Int.eq_ofNat_of_zero_le h0
  have hc : (((2 : Int) ^ (32 - n) - 1) * 2 ^ n) = (((2 ^ (32 - n) - 1) * 2 ^ n : Nat) : Int) := by
    rw [Int.natCast_mul, Int.natCast_sub (Nat.two_pow_pos _)]; simp
  have hl : (2 ^ (32 - n) - 1) * 2 ^ n ≤ 4294967295 := by
    rw [Nat.sub_mul, ← Nat.pow_add, show 32 - n + n = 32 from by omega]
    have := Nat.two_pow_pos n
    omega
  rw [hc, (bits_nat .i64 63 (by decide) wraps_i64 b _ (by omega) (by omega)).1, nat_and_high b n (by omega) hn]
  simp

/-! ### prefix -/
theorem bits33 {b : Int} (h : 0 ≤ b ∧ b ≤ 32) : b = 0 ∨ b = 1 ∨ b = 2 ∨ b = 3 ∨ b = 4 ∨ b = 5 ∨ b = 6 ∨ b = 7 ∨ b = 8 ∨ b = 9 ∨ b = 10 ∨ b = 11 ∨ b = 12 ∨ b = 13 ∨ b = 14 ∨ b = 15 ∨ b = 16 ∨ b = 17 ∨ b = 18 ∨ b = 19 ∨ b = 20 ∨ b = 21 ∨ b = 22 ∨ b = 23 ∨ b = 24 ∨ b = 25 ∨ b = 26 ∨ b = 27 ∨ b = 28 ∨ b = 29 ∨ b = 30 ∨ b = 31 ∨ b = 32 := by omega
/-- How many addresses a prefix of so many bits has. -/
def sz (b : Int) : Int := 2 ^ (32 - b).toNat
theorem sz_pos (b : Int) : 0 < sz b := Int.pow_pos (by decide)
theorem sz_le {b : Int} (h : 0 ≤ b ∧ b ≤ 32) : sz b ≤ 4294967296 := by
  rcases bits33 h with rfl | rfl | rfl | rfl | rfl | rfl | rfl | rfl | rfl | rfl | rfl | rfl | rfl | rfl | rfl | rfl | rfl | rfl | rfl | rfl | rfl | rfl | rfl | rfl | rfl | rfl | rfl | rfl | rfl | rfl | rfl | rfl | rfl <;> decide
theorem size_f {b : Int} (h : 0 ≤ b ∧ b ≤ 32) {k : Nat} (hk : 40 ≤ k) : spec_l02Size.f k b = some (sz b) := by
  have h0 : spec_l02Size.f 40 b = some (sz b) := by
    rcases bits33 h with rfl | rfl | rfl | rfl | rfl | rfl | rfl | rfl | rfl | rfl | rfl | rfl | rfl | rfl | rfl | rfl | rfl | rfl | rfl | rfl | rfl | rfl | rfl | rfl | rfl | rfl | rfl | rfl | rfl | rfl | rfl | rfl | rfl <;> decide +kernel
  exact at_rounds (fun k => spec_l02Size.mono b k) hk h0
theorem mask_f {b : Int} (h : 0 ≤ b ∧ b ≤ 32) : impl_mask.f b = some ((2 ^ (32 - (32 - b).toNat) - 1) * 2 ^ (32 - b).toNat) := by
  rcases bits33 h with rfl | rfl | rfl | rfl | rfl | rfl | rfl | rfl | rfl | rfl | rfl | rfl | rfl | rfl | rfl | rfl | rfl | rfl | rfl | rfl | rfl | rfl | rfl | rfl | rfl | rfl | rfl | rfl | rfl | rfl | rfl | rfl | rfl <;> decide +kernel
theorem and_mask {a b : Int} (h : 0 ≤ b ∧ b ≤ 32) (ha : 0 ≤ a ∧ a ≤ 4294967295) : Go.bits .and .i64 a ((2 ^ (32 - (32 - b).toNat) - 1) * 2 ^ (32 - b).toNat) = a / sz b * sz b :=
  and_high a _ ha.1 ha.2 (by omega)
/-- A prefix is valid. -/
def okP (a b : Int) : Prop := (0 ≤ a ∧ a ≤ 4294967295) ∧ (0 ≤ b ∧ b ≤ 32) ∧ a % sz b = 0
instance (a b : Int) : Decidable (okP a b) := by unfold okP; exact inferInstance
theorem div_back {a s : Int} (hs : 0 < s) : (a / s * s = a) ↔ a % s = 0 := by
  have := Int.mul_ediv_add_emod a s
  rw [Int.mul_comm] at this
  omega
theorem specOK_f (a b : Int) {k : Nat} (hk : 40 ≤ k) : spec_l02PrefixOK.f k a b = some (decide (okP a b)) := by
  unfold spec_l02PrefixOK.f okP
  rw [addrOK_f, in_f]
  simp only [Option.bind_some]
  by_cases ha : 0 ≤ a ∧ a ≤ 4294967295
  · by_cases hb : 0 ≤ b ∧ b ≤ 32
    · rw [size_f hb hk]
      have := sz_pos b
      simp only [ha, hb, and_self, decide_true, if_true, Option.bind_some, true_and]
      rw [if_neg (by omega), tm_pos _ ha.1]
      congr 1
    · simp [ha, hb]
  · simp [ha]
theorem implOK_f (a b : Int) : impl_okPrefix.f a b = some (decide (okP a b)) := by
  unfold impl_okPrefix.f okP
  rw [isAddr_f]
  simp only [Option.bind_some]
  by_cases ha : 0 ≤ a ∧ a ≤ 4294967295
  · by_cases hb : 0 ≤ b ∧ b ≤ 32
    · rw [mask_f hb]
      have hs := sz_pos b
      simp only [ha, and_self, decide_true, if_true, Option.bind_some, true_and]
      rw [if_pos (by omega), if_pos (by omega), and_mask hb ha]
      simp only [hb, and_self, true_and]
      congr 1
      have := div_back (a := a) hs
      rw [Bool.eq_iff_iff]
      simp only [beq_iff_eq, decide_eq_true_eq]
      exact this
    · simp only [ha, hb, and_self, decide_true, if_true, false_and, and_false, decide_false]
      by_cases h1 : b ≥ 0
      · rw [if_pos h1, if_neg (by omega)]
      · rw [if_neg h1]
  · simp [ha]

/-! ### lists -/
theorem rd_at {xs : List Int} {i : Nat} (h : i < xs.length) : rd xs (i : Int) = xs[i] := by
  unfold rd
  rw [Int.toNat_natCast, List.getD_eq_getElem?_getD, List.getElem?_eq_getElem h]
  rfl
theorem wr_succ {i n : Nat} (h : i < n) (hn : n ≤ 281474976710656) : wrap64 ((i : Int) + 1) = ((i + 1 : Nat) : Int) := by
  rw [wr64 (by omega)]
  omega
theorem maxLen_le {n : Nat} (h : n ≤ 1048576) : n ≤ 281474976710656 := by omega

/-! ### txt -/
def BA (l : List UInt8) : ByteArray := ⟨l.toArray⟩
theorem BA_data (l : List UInt8) : (BA l).data.toList = l := by simp [BA]
theorem BA_size (l : List UInt8) : (BA l).size = l.length := by simp [BA, ByteArray.size]
theorem BA_ext {a b : ByteArray} (h : a.data.toList = b.data.toList) : a = b := by
  obtain ⟨⟨a⟩⟩ := a
  obtain ⟨⟨b⟩⟩ := b
  simp at h
  rw [h]
theorem BA_of (s : ByteArray) : BA s.data.toList = s := BA_ext (BA_data _)
theorem BA_app (a b : List UInt8) : BA a ++ BA b = BA (a ++ b) := by
  apply BA_ext
  rw [BA_data]
  simp [BA, ByteArray.data_append]
theorem son_BA (l : List Int) : strOfNums l = BA (l.map fun n => UInt8.ofNat n.toNat) := by
  simp [strOfNums, BA]

/-! ### cutl -/
/-- A text cut at each byte c; 'cur' is what has been read of the piece. -/
def cutA (c : UInt8) : List UInt8 → List UInt8 → List (List UInt8)
  | cur, [] => [cur]
  | cur, b :: l => if b = c then cur :: cutA c [] l else cutA c (cur ++ [b]) l
theorem cutA_pos (c : UInt8) (l : List UInt8) : ∀ cur, 0 < (cutA c cur l).length := by
  induction l with
  | nil => intro cur; simp [cutA]
  | cons b l ih =>
    intro cur
    rw [cutA]
    split
    · simp
    · exact ih _
theorem cutA_len (c : UInt8) (l : List UInt8) : ∀ cur, ((cutA c cur l).map List.length).sum + (cutA c cur l).length = cur.length + l.length + 1 := by
  induction l with
  | nil => intro cur; simp [cutA]
  | cons b l ih =>
    intro cur
    rw [cutA]
    split
    · have := ih []
      simp only [List.map_cons, List.sum_cons, List.length_cons, List.length_nil] at this ⊢
      omega
    · have := ih (cur ++ [b])
      simp only [List.length_append, List.length_cons, List.length_nil] at this ⊢
      omega
theorem cutA_count (c : UInt8) (l : List UInt8) : ∀ cur, (cutA c cur l).length ≤ l.length + 1 := by
  induction l with
  | nil => intro cur; simp [cutA]
  | cons b l ih =>
    intro cur
    rw [cutA]
    split
    · have := ih []
      simp only [List.length_cons]
      omega
    · have := ih (cur ++ [b])
      simp only [List.length_cons]
      omega
theorem index_cut (c : UInt8) (l : List UInt8) : (Lib.index l [c] = -1 ∧ ∀ cur, cutA c cur l = [cur ++ l]) ∨ (∃ i : Nat, Lib.index l [c] = i ∧ i < l.length ∧ ∀ cur, cutA c cur l = (cur ++ l.take i) :: cutA c [] (l.drop (i + 1))) := by
  induction l with
  | nil => exact .inl ⟨rfl, fun cur => by simp [cutA]⟩
  | cons b l ih =>
    by_cases h : b = c
    · subst h
      refine .inr ⟨0, by simp [Lib.index, List.isPrefixOf], by simp, fun cur => by simp [cutA]⟩
    · have hp : [c].isPrefixOf (b :: l) = false := by
        simp only [List.isPrefixOf, Bool.and_true, beq_eq_false_iff_ne]
        exact fun e => h e.symm
      rcases ih with ⟨h1, h2⟩ | ⟨i, h1, h2, h3⟩
      · refine .inl ⟨?_, fun cur => ?_⟩
        · rw [Lib.index, hp, h1]
          rfl
        · rw [cutA, if_neg h, h2]
          simp
      · refine .inr ⟨i + 1, ?_, by simp; omega, fun cur => ?_⟩
        · rw [Lib.index, hp, h1]
          have : ((i : Int) == -1) = false := by rw [beq_eq_false_iff_ne]; omega
          simp [this]
        · rw [cutA, if_neg h, h3]
          simp
theorem split_cut (c : UInt8) (n : Nat) : ∀ s : ByteArray, s.size ≤ n → Lib.splitB (BA [c]) 0 (Lib.countB s (BA [c])) s = (cutA c [] s.data.toList).map BA := by
  have h1 : 1 ≤ (BA [c]).size := by rw [BA_size]; simp
  have hs1 : (BA [c]).size = 1 := by rw [BA_size]; rfl
  have hidx : ∀ s : ByteArray, Lib.indexB s (BA [c]) = Lib.index s.data.toList [c] := fun s => by
    show Lib.index s.data.toList (BA [c]).data.toList = _
    rw [BA_data]
  have hmiss : ∀ s : ByteArray, Lib.index s.data.toList [c] = -1 → (∀ cur, cutA c cur s.data.toList = [cur ++ s.data.toList]) → Lib.splitB (BA [c]) 0 (Lib.countB s (BA [c])) s = (cutA c [] s.data.toList).map BA := by
    intro s e1 e2
    rw [Lib.splitB_miss _ _ _ _ ((hidx s).trans e1), e2]
    simp [BA_of]
  induction n with
  | zero =>
    intro s hs
    rcases index_cut c s.data.toList with ⟨e1, e2⟩ | ⟨i, e1, e2, e3⟩
    · exact hmiss s e1 e2
    · rw [← Lib.size_eq] at e2
      omega
  | succ n ih =>
    intro s hs
    rcases index_cut c s.data.toList with ⟨e1, e2⟩ | ⟨i, e1, e2, e3⟩
    · exact hmiss s e1 e2
    · rw [← Lib.size_eq] at e2
      rw [Lib.countB_hit s (BA [c]) i h1 ((hidx s).trans e1), Nat.add_comm, Lib.splitB_hit _ _ _ _ i ((hidx s).trans e1), hs1, ih _ (by rw [ByteArray.size_extract]; omega), e3, Lib.extract_to_end]
      simp only [List.nil_append, List.map_cons]
      congr 1
      apply BA_ext
      rw [BA_data, Lib.extract_data]
      simp
theorem split_f {s : ByteArray} (h : s.size ≤ 1048576) (c : UInt8) : strings_Split.f s (BA [c]) = some ((cutA c [] s.data.toList).map BA) := by
  unfold strings_Split.f
  rw [if_pos ⟨by omega, by rw [BA_size]; simp⟩, split_cut c s.size s (Nat.le_refl _)]
theorem bt_list (s : ByteArray) {i : Nat} (h : i < s.data.toList.length) : bt s (i : Int) = ((s.data.toList[i]).toNat : Int) := by
  have h2 : i < s.size := by rw [Lib.size_eq]; exact h
  simp only [bt, Int.toNat_natCast]
  rw [dif_pos h2]
  rfl

/-! ### speccut -/
theorem u8_of {b c : UInt8} : ((b.toNat : Int) = (c.toNat : Int)) ↔ b = c := by
  constructor
  · intro h
    exact UInt8.toNat_inj.1 (by omega)
  · rintro rfl
    rfl
theorem scut_l (s : ByteArray) (c : UInt8) (hs : s.size ≤ 1048576) (d : Nat) : ∀ (k i j : Nat) (acc : List ByteArray), i + d = s.size → j ≤ i → acc.length ≤ i → d < k →
    spec_l02Cut.l0 k s (c.toNat : Int) acc (j : Int) (i : Int) = some (acc ++ (cutA c ((s.data.toList.take i).drop j) (s.data.toList.drop i)).map BA) := by
  have hsz := Lib.size_eq s
  induction d with
  | zero =>
    intro k i j acc hi hj ha hk
    obtain ⟨k, rfl⟩ : ∃ m, k = m + 1 := ⟨k - 1, by omega⟩
    rw [spec_l02Cut.l0, if_neg (by omega), if_pos (by omega), if_pos (by omega), if_pos (by omega)]
    rw [show s.data.toList.drop i = [] from List.drop_eq_nil_of_le (by omega), show s.data.toList.take i = s.data.toList from List.take_of_length_le (by omega), cutA]
    simp only [List.map_cons, List.map_nil, Int.toNat_natCast]
    congr 3
    apply BA_ext
    rw [BA_data, Lib.extract_to_end]
  | succ d ih =>
    intro k i j acc hi hj ha hk
    obtain ⟨k, rfl⟩ : ∃ m, k = m + 1 := ⟨k - 1, by omega⟩
    have hlt : i < s.data.toList.length := by omega
    have hw : wrap64 ((i : Int) + 1) = ((i + 1 : Nat) : Int) := by rw [wr64 (by omega)]; omega
    rw [spec_l02Cut.l0, if_pos (by omega), if_pos (by omega), bt_list s hlt, List.drop_eq_getElem_cons hlt, cutA, hw]
    by_cases hb : s.data.toList[i] = c
    · rw [if_pos (u8_of.2 hb), if_pos hb, if_pos (by omega), if_pos (by omega), if_pos (by omega), if_pos (by omega), ih k (i + 1) (i + 1) _ (by omega) (by omega) (by simp; omega) (by omega)]
      rw [show (s.data.toList.take (i + 1)).drop (i + 1) = [] from List.drop_eq_nil_of_le (by rw [List.length_take]; omega)]
      simp only [List.map_cons, List.append_assoc, List.cons_append, List.nil_append, Int.toNat_natCast]
      congr 3
      apply BA_ext
      rw [BA_data, Lib.extract_data, List.drop_take]
    · rw [if_neg (fun h => hb (u8_of.1 h)), if_neg hb, ih k (i + 1) j _ (by omega) (by omega) (by omega) (by omega)]
      congr 4
      rw [← List.take_append_getElem hlt, List.drop_append_of_le_length (by rw [List.length_take]; omega)]
theorem scut_f (s : ByteArray) (c : UInt8) (hs : s.size ≤ 1048576) {k : Nat} (hk : s.size < k) : spec_l02Cut.f k s (c.toNat : Int) = some ((cutA c [] s.data.toList).map BA) := by
  unfold spec_l02Cut.f
  have := scut_l s c hs s.size k 0 0 [] (by omega) (by omega) (by simp) hk
  simpa using this

/-! ### decf -/
theorem dec_f (n : Nat) : ∀ (k : Nat), n < k → n ≤ 100000000 → spec_l02Dec.f k (n : Int) = some (BA (Lib.decDigits n)) ∧ (Lib.decDigits n).length ≤ n + 1 := by
  induction n using Nat.strongRecOn with
  | _ n ih =>
    intro k hk hn
    obtain ⟨k, rfl⟩ : ∃ m, k = m + 1 := ⟨k - 1, by omega⟩
    by_cases h : n < 10
    · rw [spec_l02Dec.f, if_pos (by omega), Lib.decDigits_one h, wr64 (by omega), son_BA]
      refine ⟨?_, by simp⟩
      simp only [List.map_cons, List.map_nil]
      rw [show ((48 + (n : Int)) % 256).toNat = 48 + n from by omega]
    · obtain ⟨e, hl⟩ := ih (n / 10) (by omega) k (by omega) (by omega)
      have e2 : wrap64 (Int.tdiv (n : Int) 10) = ((n / 10 : Nat) : Int) := by rw [td_pos _ (by omega), wr64 (by omega)]; omega
      rw [spec_l02Dec.f, if_neg (by omega), e2, e, tm_pos _ (by omega), wr64 (a := 48 + (n : Int) % 10) (by omega), show Lib.decDigits n = Lib.decDigits (n / 10) ++ [UInt8.ofNat (48 + n % 10)] from by rw [Lib.decDigits, dif_neg h]]
      simp only [Option.bind_some]
      rw [son_BA, BA_size, BA_size, if_pos (by simp; omega), BA_app]
      simp only [List.map_cons, List.map_nil]
      rw [show ((48 + (n : Int) % 10) % 256).toNat = 48 + n % 10 from by omega]
      refine ⟨rfl, ?_⟩
      simp
      omega
theorem dec_i {a : Int} {k : Nat} (h : 0 ≤ a ∧ a < k ∧ a ≤ 100000000) : spec_l02Dec.f k a = some (BA (Lib.decDigits a.toNat)) := by
  obtain ⟨n, rfl⟩ := Int.eq_ofNat_of_zero_le h.1
  exact (dec_f n k (by omega) (by omega)).1
theorem dec_len {a : Nat} (h : a ≤ 100000000) : (Lib.decDigits a).length ≤ a + 1 := (dec_f a (a + 1) (by omega) h).2

/-! ### number -/
/-- The number that digits behind a number tell. -/
def valD (a : Nat) (l : List UInt8) : Nat := l.foldl (fun a b => a * 10 + (b.toNat - 48)) a
theorem valD_nil (a : Nat) : valD a [] = a := by unfold valD; rw [List.foldl_nil]
theorem valD_cons (a : Nat) (b : UInt8) (l : List UInt8) : valD a (b :: l) = valD (a * 10 + (b.toNat - 48)) l := by unfold valD; rw [List.foldl_cons]
def digit (b : UInt8) : Prop := 48 ≤ b.toNat ∧ b.toNat ≤ 57
instance (b : UInt8) : Decidable (digit b) := by unfold digit; exact inferInstance
def digits (l : List UInt8) : Prop := ∀ b ∈ l, digit b
instance (l : List UInt8) : Decidable (digits l) := by unfold digits; exact inferInstance
theorem valD_app (l m : List UInt8) (a : Nat) : valD a (l ++ m) = valD (valD a l) m := List.foldl_append ..
theorem head_app {l : List UInt8} (h : l ≠ []) (m : List UInt8) : (l ++ m).head? = l.head? := by
  cases l with
  | nil => exact absurd rfl h
  | cons b l => rfl
theorem valD_lt (l : List UInt8) (h : digits l) : ∀ a, valD a l < (a + 1) * 10 ^ l.length ∧ a * 10 ^ l.length ≤ valD a l := by
  induction l with
  | nil => intro a; simp [valD_nil]
  | cons b l ih =>
    intro a
    have hb := h b (List.mem_cons_self ..)
    unfold digit at hb
    have := ih (fun x hx => h x (List.mem_cons_of_mem _ hx)) (a * 10 + (b.toNat - 48))
    rw [valD_cons, List.length_cons, Nat.pow_succ]
    have h2 : (a * 10 + (b.toNat - 48) + 1) * 10 ^ l.length ≤ (a + 1) * (10 ^ l.length * 10) := by
      rw [Nat.mul_comm (10 ^ l.length) 10, ← Nat.mul_assoc]
      exact Nat.mul_le_mul_right _ (by omega)
    have h3 : a * (10 ^ l.length * 10) ≤ (a * 10 + (b.toNat - 48)) * 10 ^ l.length := by
      rw [Nat.mul_comm (10 ^ l.length) 10, ← Nat.mul_assoc]
      exact Nat.mul_le_mul_right _ (by omega)
    omega
/-- A numeral without needless noughts. -/
def okL (d : Nat) (l : List UInt8) : Prop := (l ≠ [] ∧ l.length ≤ d) ∧ digits l ∧ (1 < l.length → l.head? ≠ some 48)
instance (d : Nat) (l : List UInt8) : Decidable (okL d l) := by unfold okL; exact inferInstance
theorem head_dec (n : Nat) (h : 1 ≤ n) : (Lib.decDigits n).head? ≠ some 48 := by
  induction n using Nat.strongRecOn with
  | _ n ih =>
    by_cases hn : n < 10
    · rw [Lib.decDigits_one hn]
      rcases (show n = 1 ∨ n = 2 ∨ n = 3 ∨ n = 4 ∨ n = 5 ∨ n = 6 ∨ n = 7 ∨ n = 8 ∨ n = 9 by omega) with rfl | rfl | rfl | rfl | rfl | rfl | rfl | rfl | rfl <;> decide
    · rw [Lib.decDigits, dif_neg hn]
      have := ih (n / 10) (by omega) (by omega)
      have hl : (Lib.decDigits (n / 10)) ≠ [] := by
        intro e
        have := Lib.decDigits_length (n / 10)
        have := Lib.nDigits_pos (n / 10)
        rw [e] at *
        simp at *
        omega
      rw [head_app hl]
      exact this
theorem dec_zero : Lib.decDigits 0 = [48] := Lib.decDigits_one (by decide)
theorem dec_back (l : List UInt8) : digits l → l ≠ [] → (1 < l.length → l.head? ≠ some 48) → Lib.decDigits (valD 0 l) = l := by
  induction h : l.length using Nat.strongRecOn generalizing l with
  | _ n ih =>
    intro hd hne hh
    obtain ⟨m, b, rfl⟩ : ∃ m b, l = m ++ [b] := ⟨l.dropLast, l.getLast hne, (List.dropLast_concat_getLast hne).symm⟩
    have hb := hd b (by simp)
    unfold digit at hb
    have hb2 : UInt8.ofNat b.toNat = b := UInt8.ofNat_toNat
    rw [valD_app]
    by_cases hm : m = []
    · subst hm
      simp only [valD_cons, valD_nil, Nat.zero_mul, Nat.zero_add, List.nil_append]
      rw [Lib.decDigits_one (by omega), show 48 + (b.toNat - 48) = b.toNat from by omega, hb2]
    · have hml : 0 < m.length := List.length_pos_iff.2 hm
      have hh2 : m.head? ≠ some 48 := by
        have := hh (by rw [← h, List.length_append, List.length_cons, List.length_nil]; omega)
        rwa [head_app hm] at this
      have hdm : digits m := fun x hx => hd x (by simp [hx])
      have e := ih m.length (by simp at h; omega) m rfl hdm hm (fun _ => hh2)
      have hpos : 1 ≤ valD 0 m := by
        rcases Nat.eq_zero_or_pos (valD 0 m) with h0 | h0
        · rw [h0, dec_zero] at e
          rw [← e] at hh2
          simp at hh2
        · exact h0
      simp only [valD_cons, valD_nil]
      rw [Lib.decDigits, dif_neg (by omega), show (valD 0 m * 10 + (b.toNat - 48)) / 10 = valD 0 m from by omega, e, show 48 + (valD 0 m * 10 + (b.toNat - 48)) % 10 = b.toNat from by omega, hb2]
/-- The reference's numeral test: exactly the numerals without needless noughts. -/
theorem dec_iff (l : List UInt8) (hd : digits l) (hne : l ≠ []) : Lib.decDigits (valD 0 l) = l ↔ (1 < l.length → l.head? ≠ some 48) := by
  constructor
  · intro e hl
    rcases Nat.eq_zero_or_pos (valD 0 l) with h0 | h0
    · rw [h0, dec_zero] at e
      rw [← e] at hl
      simp at hl
    · rw [← e]
      exact head_dec _ h0
  · exact dec_back l hd hne

/-! ### numimpl -/
theorem sub48 {b : UInt8} (h : digit b) : ((b.toNat : Int) - 48) % 256 = ((b.toNat - 48 : Nat) : Int) := by
  unfold digit at h
  omega
theorem rd_bytes (s : ByteArray) {i : Nat} (h : i < s.data.toList.length) : rd (bytesOf s) (i : Int) = ((s.data.toList[i]).toNat : Int) := by
  rw [rd_at (by unfold bytesOf; simpa using h)]
  simp [bytesOf]
theorem pow10_le {i : Nat} (h : i ≤ 17) : 10 ^ i ≤ 100000000000000000 := by
  have := Nat.pow_le_pow_right (n := 10) (by decide) h
  exact this
theorem idec_l (s : ByteArray) (hs : s.data.toList.length ≤ 18) (d : Nat) : ∀ (k i v : Nat), i + d = s.data.toList.length → d < k → v < 10 ^ i →
    impl_decimal.l0 k (v : Int) (bytesOf s) (s.data.toList.length : Int) (i : Int) = some (if digits (s.data.toList.drop i) then ((valD v (s.data.toList.drop i) : Int), true) else (0, false)) := by
  have hlen : (bytesOf s).length = s.data.toList.length := by unfold bytesOf; rw [List.length_map]
  induction d with
  | zero =>
    intro k i v hi hk hv
    obtain ⟨k, rfl⟩ : ∃ m, k = m + 1 := ⟨k - 1, by omega⟩
    rw [impl_decimal.l0, if_neg (by omega), show s.data.toList.drop i = [] from List.drop_eq_nil_of_le (by omega), if_pos (by intro b hb; cases hb), valD_nil]
  | succ d ih =>
    intro k i v hi hk hv
    obtain ⟨k, rfl⟩ : ∃ m, k = m + 1 := ⟨k - 1, by omega⟩
    have hlt : i < s.data.toList.length := by omega
    have hw : wrap64 ((i : Int) + 1) = ((i + 1 : Nat) : Int) := by rw [wr64 (by omega)]; omega
    have hp := pow10_le (i := i) (by omega)
    rw [impl_decimal.l0, if_pos (by omega), if_pos (by omega), if_pos (by omega), rd_bytes s hlt, List.drop_eq_getElem_cons hlt, hw]
    have hcons : digits (s.data.toList[i] :: s.data.toList.drop (i + 1)) ↔ digit s.data.toList[i] ∧ digits (s.data.toList.drop (i + 1)) := by
      unfold digits
      exact List.forall_mem_cons
    generalize s.data.toList[i] = b at hcons ⊢
    by_cases hb : digit b
    · have hb' := hb
      unfold digit at hb'
      rw [if_neg (by omega), if_neg (by omega), sub48 hb, wr64 (a := (v : Int) * 10) (by omega), wr64 (by omega), show (v : Int) * 10 + ((b.toNat - 48 : Nat) : Int) = ((v * 10 + (b.toNat - 48) : Nat) : Int) from by omega, ih k (i + 1) _ (by omega) (by omega) (by rw [Nat.pow_succ]; omega), valD_cons]
      congr 1
      by_cases hd : digits (s.data.toList.drop (i + 1))
      · rw [if_pos hd, if_pos (hcons.2 ⟨hb, hd⟩)]
      · rw [if_neg hd, if_neg (fun h => hd (hcons.1 h).2)]
    · rw [if_neg (fun h => hb (hcons.1 h).1)]
      unfold digit at hb
      by_cases h1 : (b.toNat : Int) < 48
      · rw [if_pos h1]
      · rw [if_neg h1, if_pos (by omega)]
theorem idec_f (s : ByteArray) {d k : Nat} (hd : d ≤ 18) (hk : d + 2 < k) : impl_decimal.f k s (d : Int) = some (if okL d s.data.toList then ((valD 0 s.data.toList : Int), true) else (0, false)) := by
  have hsz := Lib.size_eq s
  obtain ⟨k, rfl⟩ : ∃ m, k = m + 1 := ⟨k - 1, by omega⟩
  have jt : impl_decimal.j0 (k + 1) s true = some (0, false) := by rw [impl_decimal.j0, if_pos rfl]
  unfold impl_decimal.f
  by_cases h0 : s.data.toList = []
  · rw [if_pos (by rw [hsz, h0]; rfl), jt, if_neg (show ¬ okL d s.data.toList from fun h => h.1.1 h0)]
  · have hpos : 0 < s.data.toList.length := List.length_pos_iff.2 h0
    rw [if_neg (by omega)]
    by_cases h1 : s.data.toList.length ≤ d
    · rw [if_neg (by omega)]
      have jf : impl_decimal.j0 (k + 1) s false = some (if digits s.data.toList then ((valD 0 s.data.toList : Int), true) else (0, false)) := by
        rw [impl_decimal.j0, if_neg (by decide), if_pos (by omega)]
        simp only [Option.bind_some]
        have := idec_l s (by omega) s.data.toList.length k 0 0 (by omega) (by omega) (by simp)
        rw [show (bytesOf s).length = s.data.toList.length from by unfold bytesOf; rw [List.length_map]]
        simpa using this
      by_cases h2 : 1 < s.data.toList.length
      · rw [if_pos (by omega), if_pos (by omega), show (0 : Int) = ((0 : Nat) : Int) from rfl, bt_list s (i := 0) hpos]
        have hh : s.data.toList.head? = some s.data.toList[0] := List.head?_eq_getElem? ▸ List.getElem?_eq_getElem hpos
        by_cases h3 : s.data.toList[0] = 48
        · rw [h3, show (((48 : UInt8).toNat : Int) == 48) = true from by decide, jt, if_neg (show ¬ okL d s.data.toList from fun h => h.2.2 h2 (by rw [hh, h3]))]
          rfl
        · rw [show (((s.data.toList[0]).toNat : Int) == 48) = false from by
            rw [beq_eq_false_iff_ne]
            intro e
            exact h3 (UInt8.toNat_inj.1 (by show _ = 48; omega)), jf]
          congr 1
          by_cases hd : digits s.data.toList
          · rw [if_pos hd, if_pos (show okL d s.data.toList from ⟨⟨h0, h1⟩, hd, fun _ => by rw [hh]; simpa using h3⟩)]
          · rw [if_neg hd, if_neg (show ¬ okL d s.data.toList from fun h => hd h.2.1)]
            rfl
      · rw [if_neg (by omega), jf]
        congr 1
        by_cases hd : digits s.data.toList
        · rw [if_pos hd, if_pos (show okL d s.data.toList from ⟨⟨h0, h1⟩, hd, fun h => absurd h h2⟩)]
        · rw [if_neg hd, if_neg (show ¬ okL d s.data.toList from fun h => hd h.2.1)]
    · rw [if_pos (by omega), jt, if_neg (show ¬ okL d s.data.toList from fun h => h1 h.1.2)]

/-! ### numspec -/
theorem sub48' {b : UInt8} (h : digit b) : ((b.toNat : Int) - 48) % 256 = ((b.toNat - 48 : Nat) : Int) := by
  unfold digit at h
  omega
theorem pow10_le7 {i : Nat} (h : i ≤ 7) : 10 ^ i ≤ 10000000 := by
  have := Nat.pow_le_pow_right (n := 10) (by decide) h
  exact this
theorem snum_l (s : ByteArray) (hs : s.data.toList.length ≤ 7) (N : Nat) (hN : 10 ^ s.data.toList.length ≤ N) (d : Nat) : ∀ (k i v : Nat), i + d = s.data.toList.length → d + N < k → v < 10 ^ i →
    spec_l02Number.l0 k s (v : Int) (i : Int) = some (if digits (s.data.toList.drop i) then ((valD v (s.data.toList.drop i) : Int), Lib.decDigits (valD v (s.data.toList.drop i)) == s.data.toList) else (0, false)) := by
  have hsz := Lib.size_eq s
  induction d with
  | zero =>
    intro k i v hi hk hv
    obtain ⟨k, rfl⟩ : ∃ m, k = m + 1 := ⟨k - 1, by omega⟩
    have hi' : i = s.data.toList.length := by omega
    have hp := pow10_le7 hs
    rw [← hi'] at hN hp
    have hv2 : v < k + 1 := by omega
    have hv3 : v ≤ 100000000 := by omega
    generalize 10 ^ i = P at *
    rw [spec_l02Number.l0, if_neg (by omega), show s.data.toList.drop i = [] from List.drop_eq_nil_of_le (by omega), if_pos (by intro b hb; cases hb), valD_nil, dec_i (by omega)]
    simp only [Option.bind_some, Int.toNat_natCast]
    rw [Lib.toList_data, Lib.toList_data, BA_data]
  | succ d ih =>
    intro k i v hi hk hv
    obtain ⟨k, rfl⟩ : ∃ m, k = m + 1 := ⟨k - 1, by omega⟩
    have hlt : i < s.data.toList.length := by omega
    have hw : wrap64 ((i : Int) + 1) = ((i + 1 : Nat) : Int) := by rw [wr64 (by omega)]; omega
    have hp := pow10_le7 (i := i) (by omega)
    have hpw : (v * 10 + 9) < 10 ^ (i + 1) := by rw [Nat.pow_succ]; omega
    have hv7 : v < 10000000 := by omega
    clear hp
    rw [spec_l02Number.l0, if_pos (by omega), if_pos (by omega), bt_list s hlt, List.drop_eq_getElem_cons hlt, hw]
    have hcons : digits (s.data.toList[i] :: s.data.toList.drop (i + 1)) ↔ digit s.data.toList[i] ∧ digits (s.data.toList.drop (i + 1)) := by
      unfold digits
      exact List.forall_mem_cons
    generalize s.data.toList[i] = b at hcons ⊢
    by_cases hb : digit b
    · have hb' := hb
      unfold digit at hb'
      rw [if_neg (by omega), if_neg (by omega), sub48' hb, wr64 (a := (v : Int) * 10) (by omega), wr64 (by omega), show (v : Int) * 10 + ((b.toNat - 48 : Nat) : Int) = ((v * 10 + (b.toNat - 48) : Nat) : Int) from by omega, ih k (i + 1) _ (by omega) (by omega) (by omega), valD_cons]
      congr 1
      by_cases hd : digits (s.data.toList.drop (i + 1))
      · rw [if_pos hd, if_pos (hcons.2 ⟨hb, hd⟩)]
      · rw [if_neg hd, if_neg (fun h => hd (hcons.1 h).2)]
    · rw [if_neg (fun h => hb (hcons.1 h).1)]
      unfold digit at hb
      by_cases h1 : (b.toNat : Int) < 48
      · rw [if_pos h1]
      · rw [if_neg h1, if_pos (by omega)]
theorem snum_f (s : ByteArray) {d k : Nat} (hd : d ≤ 7) (hk : 10000020 < k) : ∃ v : Int, spec_l02Number.f k s (d : Int) = some (v, decide (okL d s.data.toList)) ∧ (okL d s.data.toList → v = valD 0 s.data.toList) := by
  have hsz := Lib.size_eq s
  obtain ⟨k, rfl⟩ : ∃ m, k = m + 1 := ⟨k - 1, by omega⟩
  have jt : spec_l02Number.j0 (k + 1) s true = some (0, false) := by rw [spec_l02Number.j0, if_pos rfl]
  unfold spec_l02Number.f
  by_cases h0 : s.data.toList = []
  · have hn : ¬ okL d s.data.toList := fun h => h.1.1 h0
    exact ⟨0, by rw [if_pos (by rw [hsz, h0]; decide), jt, decide_eq_false hn], fun h => absurd h hn⟩
  · have hpos : 0 < s.data.toList.length := List.length_pos_iff.2 h0
    rw [if_neg (by omega)]
    by_cases h1 : s.data.toList.length ≤ d
    · rw [decide_eq_false (by omega), spec_l02Number.j0, if_neg (by decide)]
      have hp := pow10_le7 (i := s.data.toList.length) (by omega)
      have := snum_l s (by omega) 10000000 hp s.data.toList.length k 0 0 (by omega) (by omega) (by simp)
      rw [List.drop_zero] at this
      refine ⟨if digits s.data.toList then (valD 0 s.data.toList : Int) else 0, this.trans ?_, ?_⟩
      · congr 1
        by_cases hd : digits s.data.toList
        · rw [if_pos hd, if_pos hd]
          congr 1
          rw [Bool.eq_iff_iff, beq_iff_eq, decide_eq_true_eq, dec_iff _ hd h0]
          unfold okL
          exact ⟨fun h => ⟨⟨h0, h1⟩, hd, h⟩, fun h => h.2.2⟩
        · rw [if_neg hd, if_neg hd, decide_eq_false (fun h => hd h.2.1)]
      · intro h
        rw [if_pos h.2.1]
    · have hn : ¬ okL d s.data.toList := fun h => h1 h.1.2
      exact ⟨0, by rw [decide_eq_true (by omega), jt, decide_eq_false hn], fun h => absurd h hn⟩

/-! ### readaddr -/
theorem rd_BA {ps : List (List UInt8)} {i : Nat} (h : i < ps.length) : rdOf ByteArray.empty (ps.map BA) (i : Int) = BA ps[i] := by
  unfold rdOf
  rw [Int.toNat_natCast, List.getD_eq_getElem?_getD, List.getElem?_eq_getElem (by simpa using h)]
  simp
theorem or_8 {a b : Int} (ha : 0 ≤ a ∧ a < 1099511627776) (hb : 0 ≤ b ∧ b ≤ 255) : Go.bits .or .i64 (a * 256) b = a * 256 + b :=
  bits_join .i64 63 (by decide) wraps_i64 8 (a * 256) b (by omega) (by omega) (by omega) hb.1 (by omega) (by omega)
theorem val3 {l : List UInt8} (h : okL 3 l) : valD 0 l < 1000 := by
  have h1 := (valD_lt l h.2.1 0).1
  have h2 := Nat.pow_le_pow_right (n := 10) (by decide) h.1.2
  omega
theorem addr_l (ps : List (List UInt8)) (hps : ps.length = 4) (d : Nat) : ∀ (k i : Nat) (a : Int), i + d = 4 → d + 10000030 < k → 0 ≤ a → a < 256 ^ i →
    ∃ r, impl_ReadAddr.l0 k (ps.map BA) a 4 (i : Int) = some r ∧ spec_ReadAddr.l0 k (ps.map BA) a (i : Int) = some r ∧ 0 ≤ r.1 ∧ r.1 ≤ 4294967295 := by
  have hpl : ((ps.map BA).length : Int) = 4 := by rw [List.length_map, hps]; rfl
  induction d with
  | zero =>
    intro k i a hi hk h0 h1
    obtain ⟨k, rfl⟩ : ∃ m, k = m + 1 := ⟨k - 1, by omega⟩
    obtain rfl : i = 4 := by omega
    rw [impl_ReadAddr.l0, spec_ReadAddr.l0, if_neg (by omega), if_neg (by omega)]
    exact ⟨_, rfl, rfl, h0, by have : (256 : Int) ^ 4 = 4294967296 := by decide
                               omega⟩
  | succ d ih =>
    intro k i a hi hk h0 h1
    obtain ⟨k, rfl⟩ : ∃ m, k = m + 1 := ⟨k - 1, by omega⟩
    have hlt : i < ps.length := by omega
    have hw : wrap64 ((i : Int) + 1) = ((i + 1 : Nat) : Int) := by rw [wr64 (by omega)]; omega
    have hp : a < 16777216 := by
      rcases (show i = 0 ∨ i = 1 ∨ i = 2 ∨ i = 3 by omega) with rfl | rfl | rfl | rfl <;> omega
    have hps1 : (256 : Int) ^ (i + 1) = 256 ^ i * 256 := Int.pow_succ ..
    have e1 := idec_f (BA ps[i]) (d := 3) (k := k) (by decide) (by omega)
    obtain ⟨v, e2, e3⟩ := snum_f (BA ps[i]) (d := 3) (k := k) (by decide) (by omega)
    rw [show ((3 : Nat) : Int) = 3 from rfl, BA_data] at e1 e2
    rw [BA_data] at e3
    rw [impl_ReadAddr.l0, spec_ReadAddr.l0, if_pos (by omega), if_pos (by omega), if_pos (by omega), if_pos (by omega), if_pos (by omega), if_pos (by omega), rd_BA hlt, e1, e2, hw]
    simp only [Option.bind_some]
    by_cases hok : okL 3 ps[i]
    · have hv := e3 hok
      have h3 := val3 hok
      rw [hv]
      simp only [hok, decide_true, if_true]
      by_cases hb : (valD 0 ps[i] : Int) > 255
      · rw [if_pos hb, if_pos hb]
        exact ⟨_, rfl, rfl, by decide, by decide⟩
      · rw [if_neg hb, if_neg hb, wr64 (a := a * 256) (by omega), or_8 (by omega) (by omega), wr64 (by omega)]
        exact ih k (i + 1) _ (by omega) (by omega) (by omega) (by omega)
    · simp only [hok, decide_false, Bool.false_eq_true, if_false]
      exact ⟨_, rfl, rfl, by decide, by decide⟩
theorem addr_long (ps : List (List UInt8)) (hps : ps.length = 4) (d : Nat) : ∀ (k i : Nat) (a : Int), i + d = 4 → d + 10000030 < k → 12 < ((ps.drop i).map List.length).sum + 3 * i → impl_ReadAddr.l0 k (ps.map BA) a 4 (i : Int) = some (0, 6) := by
  have hpl : ((ps.map BA).length : Int) = 4 := by rw [List.length_map, hps]; rfl
  induction d with
  | zero =>
    intro k i a hi hk hs
    obtain rfl : i = 4 := by omega
    rw [List.drop_eq_nil_of_le (by omega)] at hs
    simp at hs
  | succ d ih =>
    intro k i a hi hk hs
    obtain ⟨k, rfl⟩ : ∃ m, k = m + 1 := ⟨k - 1, by omega⟩
    have hlt : i < ps.length := by omega
    have hw : wrap64 ((i : Int) + 1) = ((i + 1 : Nat) : Int) := by rw [wr64 (by omega)]; omega
    have e1 := idec_f (BA ps[i]) (d := 3) (k := k) (by decide) (by omega)
    rw [show ((3 : Nat) : Int) = 3 from rfl, BA_data] at e1
    rw [impl_ReadAddr.l0, if_pos (by omega), if_pos (by omega), if_pos (by omega), rd_BA hlt, e1, hw]
    simp only [Option.bind_some]
    by_cases hok : okL 3 ps[i]
    · simp only [hok, if_true]
      split
      · rfl
      · refine ih k (i + 1) _ (by omega) (by omega) ?_
        rw [List.drop_eq_getElem_cons hlt] at hs
        simp only [List.map_cons, List.sum_cons] at hs
        have := hok.1.2
        omega
    · simp only [hok, Bool.false_eq_true, if_false]
theorem readA_f (s : ByteArray) (hs : s.size ≤ 1048576) {k : Nat} (hk : 12000000 < k) : ∃ r, impl_ReadAddr.f k s = some r ∧ spec_ReadAddr.f k s = some r ∧ 0 ≤ r.1 ∧ r.1 ≤ 4294967295 := by
  have hsz := Lib.size_eq s
  have hl := cutA_len 46 s.data.toList []
  unfold impl_ReadAddr.f spec_ReadAddr.f
  rw [show (⟨#[46]⟩ : ByteArray) = BA [46] from rfl, split_f hs, show (46 : Int) = ((46 : UInt8).toNat : Int) from rfl, scut_f s 46 hs (by omega)]
  simp only [Option.bind_some]
  rw [List.length_map]
  by_cases h15 : (s.size : Int) > 15
  · rw [if_pos h15]
    by_cases h4 : (cutA 46 [] s.data.toList).length = 4
    · rw [h4, if_pos (show ((4 : Nat) : Int) = 4 from rfl), show ((4 : Nat) : Int) = 4 from rfl]
      refine ⟨_, addr_long _ h4 4 k 0 0 (by omega) (by omega) ?_, rfl, by decide, by decide⟩
      rw [List.drop_zero]
      simp only [List.length_nil] at hl
      omega
    · rw [if_neg (by omega)]
      exact ⟨_, rfl, rfl, by decide, by decide⟩
  · rw [if_neg h15]
    by_cases h4 : (cutA 46 [] s.data.toList).length = 4
    · rw [h4, if_pos (show ((4 : Nat) : Int) = 4 from rfl), if_pos (show ((4 : Nat) : Int) = 4 from rfl), show ((4 : Nat) : Int) = 4 from rfl]
      exact addr_l _ h4 4 k 0 0 (by omega) (by omega) (by decide) (by decide)
    · rw [if_neg (by omega), if_neg (by omega)]
      exact ⟨_, rfl, rfl, by decide, by decide⟩

/-! ### readprefix -/
theorem readA_short (s : ByteArray) (hs : s.size ≤ 1048576) {k : Nat} (hk : 12000000 < k) {r : Int × Int} (h : impl_ReadAddr.f k s = some r) (h0 : r.2 = 0) : s.size ≤ 15 := by
  obtain ⟨q, e1, e2, _⟩ := readA_f s hs hk
  have hq : r = q := Option.some.inj (h.symm.trans e1)
  subst hq
  by_cases h15 : (s.size : Int) > 15
  · unfold spec_ReadAddr.f at e2
    rw [if_pos h15] at e2
    have := Option.some.inj e2
    rw [← this] at h0
    cases h0
  · omega
theorem cut_BA (s : ByteArray) (c : UInt8) (hs : s.size ≤ 1048576) : strings_Cut.f s (BA [c]) = some (BA (Lib.cut s.data.toList [c]).1, BA (Lib.cut s.data.toList [c]).2.1, (Lib.cut s.data.toList [c]).2.2) := by
  unfold strings_Cut.f
  rw [if_pos (by omega), BA_data]
  rfl
theorem fail_if (c : Prop) [Decidable c] (x : Int × Int × Int) : (if c then (some x : Option (Int × Int × Int)) else some x) = some x := ite_self _
theorem readP_f (s : ByteArray) (hs : s.size ≤ 1048576) {k : Nat} (hk : 12000000 < k) : ∃ r, impl_ReadPrefix.f k s = some r ∧ spec_ReadPrefix.f k s = some r := by
  have hsz := Lib.size_eq s
  unfold impl_ReadPrefix.f spec_ReadPrefix.f
  rw [show (⟨#[47]⟩ : ByteArray) = BA [47] from rfl, cut_BA s 47 hs, show (47 : Int) = ((47 : UInt8).toNat : Int) from rfl, scut_f s 47 hs (by omega)]
  simp only [Option.bind_some]
  rw [List.length_map]
  have two : ((2 : Nat) : Int) = 2 := rfl
  -- the program fails where the second part is no numeral
  have bad : ∀ a b : List UInt8, a.length ≤ 1048576 → ¬ okL 2 b → ((impl_ReadAddr.f k (BA a)).bind fun bt161 => ((impl_decimal.f k (BA b) 2).bind fun bt163 => (if bt161.2 = 0 then (if bt163.2 = true then ((impl_okPrefix.f bt161.1 bt163.1).bind fun t166 => (if t166 = true then (some (bt161.1, bt163.1, (0 : Int))) else (some (0, 0, 6)))) else (some (0, 0, 6))) else (some (0, 0, 6))))) = some (0, 0, 6) := by
    intro a b ha hb
    obtain ⟨q, e1, _⟩ := readA_f (BA a) (by rw [BA_size]; exact ha) hk
    have e2 := idec_f (BA b) (d := 2) (k := k) (by decide) (by omega)
    rw [two, BA_data, if_neg hb] at e2
    rw [e1, e2]
    simp only [Option.bind_some, Bool.false_eq_true, if_false, ite_self]
  rcases index_cut 47 s.data.toList with ⟨h1, h2⟩ | ⟨i, h1, h2, h3⟩
  · -- no cut
    have ec : Lib.cut s.data.toList [47] = (s.data.toList, [], false) := by
      unfold Lib.cut
      rw [h1, if_neg (by decide)]
    rw [ec, h2]
    refine ⟨(0, 0, 6), bad s.data.toList [] (by omega) (fun h => h.1.1 rfl), ?_⟩
    rw [if_neg (show ¬ ((([[] ++ s.data.toList] : List (List UInt8)).length : Int) = 2) by simp), ite_self]
  · have ec : Lib.cut s.data.toList [47] = (s.data.toList.take i, s.data.toList.drop (i + 1), true) := by
      unfold Lib.cut
      rw [h1, if_pos (by omega)]
      rfl
    rw [ec, h3]
    simp only [List.nil_append]
    have hla : (s.data.toList.take i).length = i := by rw [List.length_take]; omega
    have hlb : (s.data.toList.drop (i + 1)).length = s.data.toList.length - (i + 1) := List.length_drop ..
    generalize s.data.toList.take i = a at *
    generalize s.data.toList.drop (i + 1) = b at *
    rcases index_cut 47 b with ⟨g1, g2⟩ | ⟨j, g1, g2, g3⟩
    · -- two parts
      rw [g2, show ((a :: [[] ++ b] : List (List UInt8)).length : Int) = 2 from rfl]
      simp only [List.nil_append, List.map_cons, List.map_nil]
      rw [if_pos trivial, if_pos (show (0 : Int) < 2 by decide), show rdOf ByteArray.empty [BA a, BA b] 0 = BA a from rfl, show rdOf ByteArray.empty [BA a, BA b] 1 = BA b from rfl]
      simp only [show ((1 : Int) < 2) = True from eq_true (by decide), if_true]
      obtain ⟨q, e1, e2, q0, q1⟩ := readA_f (BA a) (by rw [BA_size]; omega) hk
      have sh := fun h => readA_short (BA a) (by rw [BA_size]; omega) hk e1 h
      rw [BA_size] at sh
      have e3 := idec_f (BA b) (d := 2) (k := k) (by decide) (by omega)
      obtain ⟨v, e4, e5⟩ := snum_f (BA b) (d := 2) (k := k) (by decide) (by omega)
      rw [two, BA_data] at e3 e4
      rw [BA_data] at e5
      rw [e1, e2, e3, e4]
      simp only [Option.bind_some]
      by_cases hb : okL 2 b
      · have hv := e5 hb
        have hb2 := hb.1.2
        subst hv
        simp only [hb, decide_true, if_true]
        by_cases h0 : q.2 = 0
        · have := sh h0
          rw [if_pos h0, if_pos h0, if_neg (by omega), implOK_f, specOK_f _ _ (by omega)]
          by_cases ho : okP q.1 (valD 0 b : Int)
          · simp only [ho, decide_true, Option.bind_some, if_true]
            exact ⟨_, rfl, rfl⟩
          · simp only [ho, decide_false, Option.bind_some, Bool.false_eq_true, if_false]
            exact ⟨_, rfl, rfl⟩
        · rw [if_neg h0, if_neg h0, ite_self]
          exact ⟨_, rfl, rfl⟩
      · simp only [hb, decide_false, Bool.false_eq_true, if_false, ite_self]
        exact ⟨_, rfl, rfl⟩
    · -- three parts or more
      refine ⟨(0, 0, 6), bad a b (by omega) (fun h => ?_), ?_⟩
      · have hm : (47 : UInt8) ∈ b := by
          have hq := g3 []
          have := Lib.index_spec b [47]
          rcases this with ⟨t1, _⟩ | ⟨t, t1, t2, t3, _⟩
          · omega
          · have t4 : t = j := by omega
            subst t4
            unfold Lib.occAt at t3
            rw [List.drop_eq_getElem_cons g2] at t3
            simp only [List.isPrefixOf, Bool.and_true, beq_iff_eq] at t3
            rw [t3]
            exact List.getElem_mem g2
        have := h.2.1 _ hm
        revert this
        decide
      · have := cutA_pos 47 (b.drop (j + 1)) []
        rw [g3]
        generalize cutA 47 [] (b.drop (j + 1)) = ys at *
        rw [if_neg (show ¬ (((a :: ([] ++ b.take j) :: ys).length : Nat) : Int) = 2 by rw [List.length_cons, List.length_cons]; omega), ite_self]

/-! ### the law -/
theorem FnExactReadPrefix : ∀ (a0 : ByteArray), a0.size ≤ maxLen → ∃ k, laws_FnExactReadPrefix.f k a0 = some true := by
  intro s _
  obtain ⟨k, hk⟩ : ∃ k, k = 12000001 := ⟨_, rfl⟩
  refine ⟨k, ?_⟩
  unfold laws_FnExactReadPrefix.f
  by_cases h : (s.size : Int) > 1048576
  · rw [if_pos h]
  · obtain ⟨r, e1, e2⟩ := readP_f s (by omega) (k := k) (by omega)
    rw [if_neg h, e1, e2]
    simp [laws_eqPrefix.f]

end Go.Proofs.YtnnplkhjmdbmbaaDoor.Pure
