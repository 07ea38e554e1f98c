/- A drawn address shown is read back as that address, a drawn hardware address too with its letters made great, and of a drawn text that may be a prefix the program reads what the reference reads, and shows it as it stood; without conditions. -/
import Derived.Test.YtnnplkhjmdbmbaaDoorPFnAddrTextx7
set_option linter.unusedVariables false
set_option linter.unusedSimpArgs false
namespace Go.Proofs.YtnnplkhjmdbmbaaDoor.Pure
open Go.RowKit Go.Proofs.YtnnplkhjmdbmbaaDoor.PFnAddrText Go.Proofs.YtnnplkhjmdbmbaaDoorW.PrintWords Go.Proofs.YtnnplkhjmdbmbaaDoorW.PrintLast

/-! ### base -/
theorem wf64 {a : Int} (h : (Lit.int .i64 a).wf = true) : -9223372036854775808 ≤ a ∧ a ≤ 9223372036854775807 := by
  have h1 : IntKind.i64.min = -9223372036854775808 := by decide
  have h2 : IntKind.i64.max = 9223372036854775807 := by decide
  simp only [Lit.wf, Bool.and_eq_true, decide_eq_true_eq] at h
  omega
theorem tm_pos {a : Int} (n : Int) (h : 0 ≤ a) : Int.tmod a n = a % n := Int.tmod_eq_emod_of_nonneg h
theorem tm_neg {a : Int} (n : Int) (h : a ≤ 0) : Int.tmod a n = -((-a) % n) := by
  have := Int.neg_tmod (-a) n
  rw [Int.neg_neg] at this
  rw [this, Int.tmod_eq_emod_of_nonneg (by omega)]
theorem td_pos {a : Int} (n : Int) (h : 0 ≤ a) : Int.tdiv a n = a / n := Int.tdiv_eq_ediv_of_nonneg h
theorem wr64 {a : Int} (h : -9223372036854775808 ≤ a ∧ a ≤ 9223372036854775807) : wrap64 a = a := by
  unfold wrap64
  omega
theorem dec_eq {p : Prop} [Decidable p] {b : Bool} (h : b = true ↔ p) : some b = some (decide p) := by
  rw [Option.some.injEq, Bool.eq_iff_iff, decide_eq_true_eq]
  exact h
theorem ite_dec (p q : Prop) [Decidable p] [Decidable q] : (if p then some (decide q) else some false) = some (decide (p ∧ q)) := by
  by_cases h : p <;> simp [h]
theorem beq_dec (a b : Int) : (a == b) = decide (a = b) := by
  rw [Bool.eq_iff_iff]
  simp

/-! ### bits -/
theorem wraps_i64 (n : Int) (h₀ : 0 ≤ n) (h₁ : n < 2 ^ 63) : IntKind.i64.wrap n = n := by rw [IntKind.wrap_i64]; omega
/-- The low bits of any whole number. -/
theorem and_low (i : Nat) (hi : i ≤ 62) (x : Int) : Go.bits .and .i64 x (2 ^ i - 1) = x % 2 ^ i := by
  have hpos : 0 < 2 ^ i := Nat.two_pow_pos i
  have h62 : 2 ^ i ≤ 2 ^ 62 := Nat.pow_le_pow_right (by decide) hi
  have hc : ((2 : Int) ^ i - 1) = ((2 ^ i - 1 : Nat) : Int) := by
    rw [Int.natCast_sub hpos]; simp
  have hx0 : 0 ≤ x % 18446744073709551616 := Int.emod_nonneg _ (by decide)
  have hx : (BitVec.ofInt 64 x).toNat = (x % 18446744073709551616).toNat := by rw [BitVec.toNat_ofInt]; rfl
  have hd : ((2 : Int) ^ i) ∣ 18446744073709551616 := by
    rw [show (18446744073709551616 : Int) = 2 ^ 64 from rfl]
    exact ⟨2 ^ (64 - i), by rw [← Int.pow_add, show i + (64 - i) = 64 from by omega]⟩
  have h2 : ((x % 18446744073709551616).toNat % 2 ^ i : Nat) = (x % 2 ^ i).toNat := by
    apply Int.ofNat.inj
    have e1 : (((x % 18446744073709551616).toNat % 2 ^ i : Nat) : Int) = x % 2 ^ i := by
      rw [Int.natCast_emod, Int.toNat_of_nonneg hx0, Int.natCast_pow]
      exact Int.emod_emod_of_dvd _ hd
    have e2 : 0 ≤ x % 2 ^ i := Int.emod_nonneg _ (by have : (0 : Int) < 2 ^ i := Int.pow_pos (by decide); omega)
    exact e1.trans (Int.toNat_of_nonneg e2).symm
  have e2 : 0 ≤ x % 2 ^ i := Int.emod_nonneg _ (by have : (0 : Int) < 2 ^ i := Int.pow_pos (by decide); omega)
  have e3 : x % 2 ^ i < 2 ^ i := Int.emod_lt_of_pos _ (Int.pow_pos (by decide))
  have e4 : (2 : Int) ^ i ≤ 2 ^ 62 := by exact_mod_cast h62
  have key : Go.bits .and .i64 x (2 ^ i - 1) = IntKind.i64.wrap (((BitVec.ofInt 64 x).toNat &&& (BitVec.ofInt 64 ((2 ^ i - 1 : Nat) : Int)).toNat : Nat) : Int) := by
    rw [hc]
    show IntKind.i64.wrap ((BitVec.ofInt 64 x &&& BitVec.ofInt 64 ((2 ^ i - 1 : Nat) : Int)).toNat : Int) = _
    rw [BitVec.toNat_and]
  rw [key, hx]
  have hm : (BitVec.ofInt 64 ((2 ^ i - 1 : Nat) : Int)).toNat = 2 ^ i - 1 := by
    rw [BitVec.ofInt_natCast, BitVec.toNat_ofNat]
    exact Nat.mod_eq_of_lt (by omega)
  rw [hm, Nat.and_two_pow_sub_one_eq_mod, h2, Int.toNat_of_nonneg e2]
  exact wraps_i64 _ e2 (by omega)
theorem and_65535 (x : Int) : Go.bits .and .i64 x 65535 = x % 65536 := and_low 16 (by decide) x
theorem and_255 (x : Int) : Go.bits .and .i64 x 255 = x % 256 := and_low 8 (by decide) x
theorem nat_and_high (a n : Nat) (ha : a < 2 ^ 32) (hn : n ≤ 32) : a &&& ((2 ^ (32 - n) - 1) * 2 ^ n) = a / 2 ^ n * 2 ^ n := by
  apply Nat.eq_of_testBit_eq
  intro i
  rw [Nat.testBit_and, Nat.testBit_mul_two_pow, Nat.testBit_mul_two_pow, Nat.testBit_div_two_pow, Nat.testBit_two_pow_sub_one]
  by_cases h : n ≤ i
  · simp only [h, decide_true, Bool.true_and]
    rw [show i - n + n = i from by omega]
    by_cases h3 : i - n < 32 - n
    · simp [h3]
    · have : a.testBit i = false := Nat.testBit_lt_two_pow (Nat.lt_of_lt_of_le ha (Nat.pow_le_pow_right (by decide) (by omega)))
      simp [this]
  · simp [h]
theorem and_high (a : Int) (n : Nat) (h0 : 0 ≤ a) (h1 : a ≤ 4294967295) (hn : n ≤ 32) : Go.bits .and .i64 a ((2 ^ (32 - n) - 1) * 2 ^ n) = a / 2 ^ n * 2 ^ n := by
  obtain ⟨b, rfl⟩ := Int.eq_ofNat_of_zero_le h0
  have hc : (((2 : Int) ^ (32 - n) - 1) * 2 ^ n) = (((2 ^ (32 - n) - 1) * 2 ^ n : Nat) : Int) := by
    rw [Int.natCast_mul, Int.natCast_sub (Nat.two_pow_pos _)]; simp
  have hl : (2 ^ (32 - n) - 1) * 2 ^ n ≤ 4294967295 := by
    rw [Nat.sub_mul, ← Nat.pow_add, show 32 - n + n = 32 from by omega]
    have := Nat.two_pow_pos n
    omega
  rw [hc, (bits_nat .i64 63 (by decide) wraps_i64 b _ (by omega) (by omega)).1, nat_and_high b n (by omega) hn]
  simp

/-! ### lists -/
theorem rd_at {xs : List Int} {i : Nat} (h : i < xs.length) : rd xs (i : Int) = xs[i] := by
  unfold rd
  rw [Int.toNat_natCast, List.getD_eq_getElem?_getD, List.getElem?_eq_getElem h]
  rfl
theorem wr_succ {i n : Nat} (h : i < n) (hn : n ≤ 281474976710656) : wrap64 ((i : Int) + 1) = ((i + 1 : Nat) : Int) := by
  rw [wr64 (by omega)]
  omega
theorem maxLen_le {n : Nat} (h : n ≤ 1048576) : n ≤ 281474976710656 := by omega

/-! ### txt -/
def BA (l : List UInt8) : ByteArray := ⟨l.toArray⟩
theorem BA_data (l : List UInt8) : (BA l).data.toList = l := by simp [BA]
theorem BA_size (l : List UInt8) : (BA l).size = l.length := by simp [BA, ByteArray.size]
theorem BA_ext {a b : ByteArray} (h : a.data.toList = b.data.toList) : a = b := by
  obtain ⟨⟨a⟩⟩ := a
  obtain ⟨⟨b⟩⟩ := b
  simp at h
  rw [h]
theorem BA_of (s : ByteArray) : BA s.data.toList = s := BA_ext (BA_data _)
theorem BA_app (a b : List UInt8) : BA a ++ BA b = BA (a ++ b) := by
  apply BA_ext
  rw [BA_data]
  simp [BA, ByteArray.data_append]
theorem son_BA (l : List Int) : strOfNums l = BA (l.map fun n => UInt8.ofNat n.toNat) := by
  simp [strOfNums, BA]

/-! ### cutl -/
/-- A text cut at each byte c; 'cur' is what has been read of the piece. -/
def cutA (c : UInt8) : List UInt8 → List UInt8 → List (List UInt8)
  | cur, [] => [cur]
  | cur, b :: l => if b = c then cur :: cutA c [] l else cutA c (cur ++ [b]) l
theorem cutA_pos (c : UInt8) (l : List UInt8) : ∀ cur, 0 < (cutA c cur l).length := by
  induction l with
  | nil => intro cur; simp [cutA]
  | cons b l ih =>
    intro cur
    rw [cutA]
    split
    · simp
    · exact ih _
theorem cutA_len (c : UInt8) (l : List UInt8) : ∀ cur, ((cutA c cur l).map List.length).sum + (cutA c cur l).length = cur.length + l.length + 1 := by
  induction l with
  | nil => intro cur; simp [cutA]
  | cons b l ih =>
    intro cur
    rw [cutA]
    split
    · have := ih []
      simp only [List.map_cons, List.sum_cons, List.length_cons, List.length_nil] at this ⊢
      omega
    · have := ih (cur ++ [b])
      simp only [List.length_append, List.length_cons, List.length_nil] at this ⊢
      omega
theorem cutA_count (c : UInt8) (l : List UInt8) : ∀ cur, (cutA c cur l).length ≤ l.length + 1 := by
  induction l with
  | nil => intro cur; simp [cutA]
  | cons b l ih =>
    intro cur
    rw [cutA]
    split
    · have := ih []
      simp only [List.length_cons]
      omega
    · have := ih (cur ++ [b])
      simp only [List.length_cons]
      omega
theorem index_cut (c : UInt8) (l : List UInt8) : (Lib.index l [c] = -1 ∧ ∀ cur, cutA c cur l = [cur ++ l]) ∨ (∃ i : Nat, Lib.index l [c] = i ∧ i < l.length ∧ ∀ cur, cutA c cur l = (cur ++ l.take i) :: cutA c [] (l.drop (i + 1))) := by
  induction l with
  | nil => exact .inl ⟨rfl, fun cur => by simp [cutA]⟩
  | cons b l ih =>
    by_cases h : b = c
    · subst h
      refine .inr ⟨0, by simp [Lib.index, List.isPrefixOf], by simp, fun cur => by simp [cutA]⟩
    · have hp : [c].isPrefixOf (b :: l) = false := by
        simp only [List.isPrefixOf, Bool.and_true, beq_eq_false_iff_ne]
        exact fun e => h e.symm
      rcases ih with ⟨h1, h2⟩ | ⟨i, h1, h2, h3⟩
      · refine .inl ⟨?_, fun cur => ?_⟩
        · rw [Lib.index, hp, h1]
          rfl
        · rw [cutA, if_neg h, h2]
          simp
      · refine .inr ⟨i + 1, ?_, by simp; omega, fun cur => ?_⟩
        · rw [Lib.index, hp, h1]
          have : ((i : Int) == -1) = false := by rw [beq_eq_false_iff_ne]; omega
          simp [this]
        · rw [cutA, if_neg h, h3]
          simp
theorem split_cut (c : UInt8) (n : Nat) : ∀ s : ByteArray, s.size ≤ n → Lib.splitB (BA [c]) 0 (Lib.countB s (BA [c])) s = (cutA c [] s.data.toList).map BA := by
  have h1 : 1 ≤ (BA [c]).size := by rw [BA_size]; simp
  have hs1 : (BA [c]).size = 1 := by rw [BA_size]; rfl
  have hidx : ∀ s : ByteArray, Lib.indexB s (BA [c]) = Lib.index s.data.toList [c] := fun s => by
    show Lib.index s.data.toList (BA [c]).data.toList = _
    rw [BA_data]
  have hmiss : ∀ s : ByteArray, Lib.index s.data.toList [c] = -1 → (∀ cur, cutA c cur s.data.toList = [cur ++ s.data.toList]) → Lib.splitB (BA [c]) 0 (Lib.countB s (BA [c])) s = (cutA c [] s.data.toList).map BA := by
    intro s e1 e2
    rw [Lib.splitB_miss _ _ _ _ ((hidx s).trans e1), e2]
    simp [BA_of]
  induction n with
  | zero =>
    intro s hs
    rcases index_cut c s.data.toList with ⟨e1, e2⟩ | ⟨i, e1, e2, e3⟩
    · exact hmiss s e1 e2
    · rw [← Lib.size_eq] at e2
      omega
  | succ n ih =>
    intro s hs
    rcases index_cut c s.data.toList with ⟨e1, e2⟩ | ⟨i, e1, e2, e3⟩
    · exact hmiss s e1 e2
    · rw [← Lib.size_eq] at e2
      rw [Lib.countB_hit s (BA [c]) i h1 ((hidx s).trans e1), Nat.add_comm, Lib.splitB_hit _ _ _ _ i ((hidx s).trans e1), hs1, ih _ (by rw [ByteArray.size_extract]; omega), e3, Lib.extract_to_end]
      simp only [List.nil_append, List.map_cons]
      congr 1
      apply BA_ext
      rw [BA_data, Lib.extract_data]
      simp
theorem split_f {s : ByteArray} (h : s.size ≤ 1048576) (c : UInt8) : strings_Split.f s (BA [c]) = some ((cutA c [] s.data.toList).map BA) := by
  unfold strings_Split.f
  rw [if_pos ⟨by omega, by rw [BA_size]; simp⟩, split_cut c s.size s (Nat.le_refl _)]
theorem bt_list (s : ByteArray) {i : Nat} (h : i < s.data.toList.length) : bt s (i : Int) = ((s.data.toList[i]).toNat : Int) := by
  have h2 : i < s.size := by rw [Lib.size_eq]; exact h
  simp only [bt, Int.toNat_natCast]
  rw [dif_pos h2]
  rfl

/-! ### speccut -/
theorem u8_of {b c : UInt8} : ((b.toNat : Int) = (c.toNat : Int)) ↔ b = c := by
  constructor
  · intro h
    exact UInt8.toNat_inj.1 (by omega)
  · rintro rfl
    rfl
theorem scut_l (s : ByteArray) (c : UInt8) (hs : s.size ≤ 1048576) (d : Nat) : ∀ (k i j : Nat) (acc : List ByteArray), i + d = s.size → j ≤ i → acc.length ≤ i → d < k →
    spec_l02Cut.l0 k s (c.toNat : Int) acc (j : Int) (i : Int) = some (acc ++ (cutA c ((s.data.toList.take i).drop j) (s.data.toList.drop i)).map BA) := by
  have hsz := Lib.size_eq s
  induction d with
  | zero =>
    intro k i j acc hi hj ha hk
    obtain ⟨k, rfl⟩ : ∃ m, k = m + 1 := ⟨k - 1, by omega⟩
    rw [spec_l02Cut.l0, if_neg (by omega), if_pos (by omega), if_pos (by omega), if_pos (by omega)]
    rw [show s.data.toList.drop i = [] from List.drop_eq_nil_of_le (by omega), show s.data.toList.take i = s.data.toList from List.take_of_length_le (by omega), cutA]
    simp only [List.map_cons, List.map_nil, Int.toNat_natCast]
    congr 3
    apply BA_ext
    rw [BA_data, Lib.extract_to_end]
  | succ d ih =>
    intro k i j acc hi hj ha hk
    obtain ⟨k, rfl⟩ : ∃ m, k = m + 1 := ⟨k - 1, by omega⟩
    have hlt : i < s.data.toList.length := by omega
    have hw : wrap64 ((i : Int) + 1) = ((i + 1 : Nat) : Int) := by rw [wr64 (by omega)]; omega
    rw [spec_l02Cut.l0, if_pos (by omega), if_pos (by omega), bt_list s hlt, List.drop_eq_getElem_cons hlt, cutA, hw]
    by_cases hb : s.data.toList[i] = c
    · rw [if_pos (u8_of.2 hb), if_pos hb, if_pos (by omega), if_pos (by omega), if_pos (by omega), if_pos (by omega), ih k (i + 1) (i + 1) _ (by omega) (by omega) (by simp; omega) (by omega)]
      rw [show (s.data.toList.take (i + 1)).drop (i + 1) = [] from List.drop_eq_nil_of_le (by rw [List.length_take]; omega)]
      simp only [List.map_cons, List.append_assoc, List.cons_append, List.nil_append, Int.toNat_natCast]
      congr 3
      apply BA_ext
      rw [BA_data, Lib.extract_data, List.drop_take]
    · rw [if_neg (fun h => hb (u8_of.1 h)), if_neg hb, ih k (i + 1) j _ (by omega) (by omega) (by omega) (by omega)]
      congr 4
      rw [← List.take_append_getElem hlt, List.drop_append_of_le_length (by rw [List.length_take]; omega)]
theorem scut_f (s : ByteArray) (c : UInt8) (hs : s.size ≤ 1048576) {k : Nat} (hk : s.size < k) : spec_l02Cut.f k s (c.toNat : Int) = some ((cutA c [] s.data.toList).map BA) := by
  unfold spec_l02Cut.f
  have := scut_l s c hs s.size k 0 0 [] (by omega) (by omega) (by simp) hk
  simpa using this

/-! ### drawbase -/
theorem u64_nn (y : Int) : 0 ≤ IntKind.u64.wrap y := by simp [IntKind.wrap, IntKind.bits, IntKind.signed]; omega
theorem u64_id {y : Int} (h : 0 ≤ y ∧ y ≤ 9223372036854775807) : IntKind.u64.wrap y = y := by simp [IntKind.wrap, IntKind.bits, IntKind.signed]; omega
theorem xor_nn (a b : Int) : 0 ≤ Go.bits .xor .u64 a b := by
  show 0 ≤ IntKind.u64.wrap _
  exact u64_nn _
theorem mod_in {x n : Int} (hx : 0 ≤ x) (hn : 0 < n) (h2 : n ≤ 4611686018427387904) : 0 ≤ wrap64 (Int.tmod x n) ∧ wrap64 (Int.tmod x n) < n := by
  have e : Int.tmod x n = x % n := tm_pos n hx
  have h0 := Int.emod_nonneg x (show n ≠ 0 by omega)
  have h1 := Int.emod_lt_of_pos x hn
  rw [e, wr64 (by omega)]
  exact ⟨h0, h1⟩

/-! ### lwdraw -/
theorem lwb_l (l : List Int) (hn : l.length ≤ 1048576) (m : List Int) (p : Int) (d : Nat) : ∀ (k i : Nat) (st : Int), i + d = l.length → d < k → ∃ st', laws_lwBegin.l0 k l (i : Int) m p st = some (p, st') := by
  induction d with
  | zero =>
    intro k i st hi hk
    obtain ⟨k, rfl⟩ : ∃ m, k = m + 1 := ⟨k - 1, by omega⟩
    simp only [laws_lwBegin.l0]
    rw [if_neg (by omega)]
    exact ⟨st, rfl⟩
  | succ d ih =>
    intro k i st hi hk
    obtain ⟨k, rfl⟩ : ∃ m, k = m + 1 := ⟨k - 1, by omega⟩
    simp only [laws_lwBegin.l0]
    rw [if_pos (by omega), if_pos (by omega), wr_succ (n := l.length) (by omega) (by omega)]
    exact ih k (i + 1) _ (by omega) (by omega)
theorem lwb_f {l : List Int} (hn : l.length ≤ 1048576) (a : Int) {k : Nat} (hk : l.length < k) : ∃ st, laws_lwBegin.f k l a = some (0, st) := by
  unfold laws_lwBegin.f
  exact lwb_l l hn l 0 l.length k 0 _ (by omega) hk
theorem lwn_f {l : List Int} (hl : l.length ≤ 1048576) {p : Int} (st : Int) {n : Int} (hp : 0 ≤ p) (hn : 0 < n) (h2 : n ≤ 4611686018427387904) : ∃ r p' st', laws_lwNext.f l p st n = some (r, p', st') ∧ 0 ≤ r ∧ r < n ∧ 0 ≤ p' := by
  unfold laws_lwNext.f
  rw [if_neg (show ¬ n ≤ 0 by omega), u64_id (y := n) (by omega)]
  by_cases h : p < (l.length : Int)
  · rw [if_pos h, if_pos hp, if_neg (show ¬ n = 0 by omega)]
    have := mod_in (xor_nn (IntKind.u64.wrap (IntKind.u64.wrap (st * 6364136223846793005) + 1442695040888963407) / 8589934592) (IntKind.u64.wrap (rd l p))) hn h2
    exact ⟨_, _, _, rfl, this.1, this.2, by rw [wr64 (by omega)]; omega⟩
  · rw [if_neg h, if_neg (show ¬ n = 0 by omega)]
    have hq : 0 ≤ IntKind.u64.wrap (IntKind.u64.wrap (st * 6364136223846793005) + 1442695040888963407) / 8589934592 := by
      have := u64_nn (IntKind.u64.wrap (st * 6364136223846793005) + 1442695040888963407)
      omega
    have := mod_in hq hn h2
    exact ⟨_, _, _, rfl, this.1, this.2, hp⟩

/-! ### decf -/
theorem dec_f (n : Nat) : ∀ (k : Nat), n < k → n ≤ 100000000 → spec_l02Dec.f k (n : Int) = some (BA (Lib.decDigits n)) ∧ (Lib.decDigits n).length ≤ n + 1 := by
  induction n using Nat.strongRecOn with
  | _ n ih =>
    intro k hk hn
    obtain ⟨k, rfl⟩ : ∃ m, k = m + 1 := ⟨k - 1, by omega⟩
    by_cases h : n < 10
    · rw [spec_l02Dec.f, if_pos (by omega), Lib.decDigits_one h, wr64 (by omega), son_BA]
      refine ⟨?_, by simp⟩
      simp only [List.map_cons, List.map_nil]
      rw [show ((48 + (n : Int)) % 256).toNat = 48 + n from by omega]
    · obtain ⟨e, hl⟩ := ih (n / 10) (by omega) k (by omega) (by omega)
      have e2 : wrap64 (Int.tdiv (n : Int) 10) = ((n / 10 : Nat) : Int) := by rw [td_pos _ (by omega), wr64 (by omega)]; omega
      rw [spec_l02Dec.f, if_neg (by omega), e2, e, tm_pos _ (by omega), wr64 (a := 48 + (n : Int) % 10) (by omega), show Lib.decDigits n = Lib.decDigits (n / 10) ++ [UInt8.ofNat (48 + n % 10)] from by rw [Lib.decDigits, dif_neg h]]
      simp only [Option.bind_some]
      rw [son_BA, BA_size, BA_size, if_pos (by simp; omega), BA_app]
      simp only [List.map_cons, List.map_nil]
      rw [show ((48 + (n : Int) % 10) % 256).toNat = 48 + n % 10 from by omega]
      refine ⟨rfl, ?_⟩
      simp
      omega
theorem dec_i {a : Int} {k : Nat} (h : 0 ≤ a ∧ a < k ∧ a ≤ 100000000) : spec_l02Dec.f k a = some (BA (Lib.decDigits a.toNat)) := by
  obtain ⟨n, rfl⟩ := Int.eq_ofNat_of_zero_le h.1
  exact (dec_f n k (by omega) (by omega)).1
theorem dec_len {a : Nat} (h : a ≤ 100000000) : (Lib.decDigits a).length ≤ a + 1 := (dec_f a (a + 1) (by omega) h).2

/-! ### fmtint -/
theorem fmt_f {a : Int} (h : 0 ≤ a ∧ a ≤ 9223372036854775807) : strconv_FormatInt.f a 10 = some (BA (Lib.decDigits a.toNat)) := by
  obtain ⟨n, rfl⟩ := Int.eq_ofNat_of_zero_le h.1
  unfold strconv_FormatInt.f
  rw [if_pos (by omega), Lib.itoa_nonneg]
  rfl

/-! ### addr0 -/
theorem in_f (a l h : Int) : spec_l01In.f a l h = some (decide (l ≤ a ∧ a ≤ h)) := by
  unfold spec_l01In.f
  by_cases h1 : a ≥ l
  · rw [if_pos h1]; congr 1; rw [decide_eq_decide]; omega
  · rw [if_neg h1]; congr 1; rw [eq_comm, decide_eq_false_iff_not]; omega

/-! ### addr -/
theorem addrOK_f (a : Int) : spec_l02AddrOK.f a = some (decide (0 ≤ a ∧ a ≤ 4294967295)) := by
  unfold spec_l02AddrOK.f
  rw [in_f]
  rfl
theorem isAddr_f (a : Int) : impl_isAddr.f a = some (decide (0 ≤ a ∧ a ≤ 4294967295)) := by
  unfold impl_isAddr.f
  by_cases h1 : a ≥ 0
  · rw [if_pos h1]; congr 1; rw [decide_eq_decide]; omega
  · rw [if_neg h1]; congr 1; rw [eq_comm, decide_eq_false_iff_not]; omega

/-! ### prefix -/
theorem bits33 {b : Int} (h : 0 ≤ b ∧ b ≤ 32) : b = 0 ∨ b = 1 ∨ b = 2 ∨ b = 3 ∨ b = 4 ∨ b = 5 ∨ b = 6 ∨ b = 7 ∨ b = 8 ∨ b = 9 ∨ b = 10 ∨ b = 11 ∨ b = 12 ∨ b = 13 ∨ b = 14 ∨ b = 15 ∨ b = 16 ∨ b = 17 ∨ b = 18 ∨ b = 19 ∨ b = 20 ∨ b = 21 ∨ b = 22 ∨ b = 23 ∨ b = 24 ∨ b = 25 ∨ b = 26 ∨ b = 27 ∨ b = 28 ∨ b = 29 ∨ b = 30 ∨ b = 31 ∨ b = 32 := by omega
/-- How many addresses a prefix of so many bits has. -/
def sz (b : Int) : Int := 2 ^ (32 - b).toNat
theorem sz_pos (b : Int) : 0 < sz b := Int.pow_pos (by decide)
theorem sz_le {b : Int} (h : 0 ≤ b ∧ b ≤ 32) : sz b ≤ 4294967296 := by
  rcases bits33 h with rfl | rfl | rfl | rfl | rfl | rfl | rfl | rfl | rfl | rfl | rfl | rfl | rfl | rfl | rfl | rfl | rfl | rfl | rfl | rfl | rfl | rfl | rfl | rfl | rfl | rfl | rfl | rfl | rfl | rfl | rfl | rfl | rfl <;> decide
theorem size_f {b : Int} (h : 0 ≤ b ∧ b ≤ 32) {k : Nat} (hk : 40 ≤ k) : spec_l02Size.f k b = some (sz b) := by
  have h0 : spec_l02Size.f 40 b = some (sz b) := by
    rcases bits33 h with rfl | rfl | rfl | rfl | rfl | rfl | rfl | rfl | rfl | rfl | rfl | rfl | rfl | rfl | rfl | rfl | rfl | rfl | rfl | rfl | rfl | rfl | rfl | rfl | rfl | rfl | rfl | rfl | rfl | rfl | rfl | rfl | rfl <;> decide +kernel
  exact at_rounds (fun k => spec_l02Size.mono b k) hk h0
theorem mask_f {b : Int} (h : 0 ≤ b ∧ b ≤ 32) : impl_mask.f b = some ((2 ^ (32 - (32 - b).toNat) - 1) * 2 ^ (32 - b).toNat) := by
  rcases bits33 h with rfl | rfl | rfl | rfl | rfl | rfl | rfl | rfl | rfl | rfl | rfl | rfl | rfl | rfl | rfl | rfl | rfl | rfl | rfl | rfl | rfl | rfl | rfl | rfl | rfl | rfl | rfl | rfl | rfl | rfl | rfl | rfl | rfl <;> decide +kernel
theorem and_mask {a b : Int} (h : 0 ≤ b ∧ b ≤ 32) (ha : 0 ≤ a ∧ a ≤ 4294967295) : Go.bits .and .i64 a ((2 ^ (32 - (32 - b).toNat) - 1) * 2 ^ (32 - b).toNat) = a / sz b * sz b :=
  and_high a _ ha.1 ha.2 (by omega)
/-- A prefix is valid. -/
def okP (a b : Int) : Prop := (0 ≤ a ∧ a ≤ 4294967295) ∧ (0 ≤ b ∧ b ≤ 32) ∧ a % sz b = 0
instance (a b : Int) : Decidable (okP a b) := by unfold okP; exact inferInstance
theorem div_back {a s : Int} (hs : 0 < s) : (a / s * s = a) ↔ a % s = 0 := by
  have := Int.mul_ediv_add_emod a s
  rw [Int.mul_comm] at this
  omega
theorem specOK_f (a b : Int) {k : Nat} (hk : 40 ≤ k) : spec_l02PrefixOK.f k a b = some (decide (okP a b)) := by
  unfold spec_l02PrefixOK.f okP
  rw [addrOK_f, in_f]
  simp only [Option.bind_some]
  by_cases ha : 0 ≤ a ∧ a ≤ 4294967295
  · by_cases hb : 0 ≤ b ∧ b ≤ 32
    · rw [size_f hb hk]
      have := sz_pos b
      simp only [ha, hb, and_self, decide_true, if_true, Option.bind_some, true_and]
      rw [if_neg (by omega), tm_pos _ ha.1]
      congr 1
    · simp [ha, hb]
  · simp [ha]
theorem implOK_f (a b : Int) : impl_okPrefix.f a b = some (decide (okP a b)) := by
  unfold impl_okPrefix.f okP
  rw [isAddr_f]
  simp only [Option.bind_some]
  by_cases ha : 0 ≤ a ∧ a ≤ 4294967295
  · by_cases hb : 0 ≤ b ∧ b ≤ 32
    · rw [mask_f hb]
      have hs := sz_pos b
      simp only [ha, and_self, decide_true, if_true, Option.bind_some, true_and]
      rw [if_pos (by omega), if_pos (by omega), and_mask hb ha]
      simp only [hb, and_self, true_and]
      congr 1
      have := div_back (a := a) hs
      rw [Bool.eq_iff_iff]
      simp only [beq_iff_eq, decide_eq_true_eq]
      exact this
    · simp only [ha, hb, and_self, decide_true, if_true, false_and, and_false, decide_false]
      by_cases h1 : b ≥ 0
      · rw [if_pos h1, if_neg (by omega)]
      · rw [if_neg h1]
  · simp [ha]

/-! ### showaddr -/
/-- An address as a text. -/
def addrL (a : Int) : List UInt8 := Lib.decDigits (a / 16777216).toNat ++ [46] ++ Lib.decDigits (a / 65536 % 256).toNat ++ [46] ++ Lib.decDigits (a / 256 % 256).toNat ++ [46] ++ Lib.decDigits (a % 256).toNat
theorem showA_spec {a : Int} (h : 0 ≤ a ∧ a ≤ 4294967295) {k : Nat} (hk : 300 ≤ k) : spec_ShowAddr.f k a = some (BA (addrL a), 0) := by
  unfold spec_ShowAddr.f
  have l1 := dec_len (a := (a / 16777216).toNat) (by omega)
  have l2 := dec_len (a := (a / 65536 % 256).toNat) (by omega)
  have l3 := dec_len (a := (a / 256 % 256).toNat) (by omega)
  have l4 := dec_len (a := (a % 256).toNat) (by omega)
  rw [addrOK_f, decide_eq_true h, and_255, and_255, and_255, dec_i (a := a / 16777216) (by omega), dec_i (a := a / 65536 % 256) (by omega), dec_i (a := a / 256 % 256) (by omega), dec_i (a := a % 256) (by omega), show (⟨#[46]⟩ : ByteArray) = BA [46] from rfl]
  simp only [Option.bind_some, if_true, BA_app, BA_size, List.length_append, List.length_cons, List.length_nil]
  rw [if_pos (by omega), if_pos (by omega), if_pos (by omega), if_pos (by omega), if_pos (by omega), if_pos (by omega)]
  rfl
theorem showA_none {a : Int} (h : ¬ (0 ≤ a ∧ a ≤ 4294967295)) (k : Nat) : spec_ShowAddr.f k a = some (⟨#[]⟩, 1) := by
  unfold spec_ShowAddr.f
  rw [addrOK_f, decide_eq_false h]
  rfl
theorem shr_24 (a : Int) : shr .i64 a 24 = a / 16777216 := rfl
theorem shr_16 (a : Int) : shr .i64 a 16 = a / 65536 := rfl
theorem shr_8 (a : Int) : shr .i64 a 8 = a / 256 := rfl
theorem shr_0 (a : Int) : shr .i64 a 0 = a / 1 := rfl
theorem showA_loop {k : Nat} {a i : Int} {l : List ByteArray} {s : ByteArray} (h : 0 ≤ i ∧ i ≤ 64) (hl : l.length ≤ 100) (e : strconv_FormatInt.f (Go.bits .and .i64 (shr .i64 a i) 255) 10 = some s) : impl_ShowAddr.l0 (k + 1) a l i = impl_ShowAddr.l0 k a (l ++ [s]) (i - 8) := by
  rw [impl_ShowAddr.l0, if_pos h.1, if_pos h.1, e]
  simp only [Option.bind_some]
  rw [if_pos (by omega), wr64 (by omega)]
theorem showA_impl {a : Int} (h : 0 ≤ a ∧ a ≤ 4294967295) {k : Nat} (hk : 300 ≤ k) : impl_ShowAddr.f k a = some (BA (addrL a), 0) := by
  unfold impl_ShowAddr.f
  have l1 := dec_len (a := (a / 16777216).toNat) (by omega)
  have l2 := dec_len (a := (a / 65536 % 256).toNat) (by omega)
  have l3 := dec_len (a := (a / 256 % 256).toNat) (by omega)
  have l4 := dec_len (a := (a % 256).toNat) (by omega)
  rw [isAddr_f, decide_eq_true h]
  simp only [Option.bind_some, if_true]
  obtain ⟨k, rfl⟩ : ∃ m, k = m + 1 + 1 + 1 + 1 + 1 := ⟨k - 5, by omega⟩
  have f1 : strconv_FormatInt.f (Go.bits .and .i64 (shr .i64 a 24) 255) 10 = some (BA (Lib.decDigits (a / 16777216).toNat)) := by
    rw [shr_24, and_255, fmt_f (by omega), show a / 16777216 % 256 = a / 16777216 from by omega]
  have f2 : strconv_FormatInt.f (Go.bits .and .i64 (shr .i64 a 16) 255) 10 = some (BA (Lib.decDigits (a / 65536 % 256).toNat)) := by
    rw [shr_16, and_255, fmt_f (by omega)]
  have f3 : strconv_FormatInt.f (Go.bits .and .i64 (shr .i64 a 8) 255) 10 = some (BA (Lib.decDigits (a / 256 % 256).toNat)) := by
    rw [shr_8, and_255, fmt_f (by omega)]
  have f4 : strconv_FormatInt.f (Go.bits .and .i64 (shr .i64 a 0) 255) 10 = some (BA (Lib.decDigits (a % 256).toNat)) := by
    rw [shr_0, and_255, fmt_f (by omega), Int.ediv_one]
  rw [showA_loop (by omega) (by simp) f1, show (24 : Int) - 8 = 16 from rfl, showA_loop (by omega) (by simp) f2, show (16 : Int) - 8 = 8 from rfl, showA_loop (by omega) (by simp) f3, show (8 : Int) - 8 = 0 from rfl, showA_loop (by omega) (by simp) f4, impl_ShowAddr.l0, if_neg (by omega)]
  unfold strings_Join.f
  have ej : Lib.join ((([] ++ [BA (Lib.decDigits (a / 16777216).toNat)] ++ [BA (Lib.decDigits (a / 65536 % 256).toNat)] ++ [BA (Lib.decDigits (a / 256 % 256).toNat)] ++ [BA (Lib.decDigits (a % 256).toNat)]).map fun x : ByteArray => x.data.toList)) (⟨#[46]⟩ : ByteArray).data.toList = addrL a := by
    simp only [List.nil_append, List.cons_append, List.map_cons, List.map_nil, BA_data]
    unfold Lib.join addrL
    simp [List.intercalate, List.intersperse]
  rw [ej, if_pos ⟨by simp, by unfold addrL; simp only [List.length_append, List.length_cons, List.length_nil]; omega⟩]
  rfl
theorem showA_impl_none {a : Int} (h : ¬ (0 ≤ a ∧ a ≤ 4294967295)) (k : Nat) : impl_ShowAddr.f k a = some (⟨#[]⟩, 1) := by
  unfold impl_ShowAddr.f
  rw [isAddr_f, decide_eq_false h]
  rfl

/-! ### showprefix -/
/-- A prefix as a text. -/
def prefixL (a b : Int) : List UInt8 := addrL a ++ [47] ++ Lib.decDigits b.toNat
theorem addrL_len {a : Int} (h : 0 ≤ a ∧ a ≤ 4294967295) : (addrL a).length ≤ 1100 := by
  have l1 := dec_len (a := (a / 16777216).toNat) (by omega)
  have l2 := dec_len (a := (a / 65536 % 256).toNat) (by omega)
  have l3 := dec_len (a := (a / 256 % 256).toNat) (by omega)
  have l4 := dec_len (a := (a % 256).toNat) (by omega)
  unfold addrL
  simp only [List.length_append, List.length_cons, List.length_nil]
  omega
theorem showP_spec {a b : Int} (h : okP a b) {k : Nat} (hk : 300 ≤ k) : spec_ShowPrefix.f k a b = some (BA (prefixL a b), 0) := by
  unfold spec_ShowPrefix.f
  have l1 := addrL_len h.1
  have hb := h.2.1
  have l2 := dec_len (a := b.toNat) (by omega)
  rw [specOK_f _ _ (by omega), decide_eq_true h, showA_spec h.1 hk, dec_i (a := b) (by omega), show (⟨#[47]⟩ : ByteArray) = BA [47] from rfl]
  simp only [Option.bind_some, if_true, BA_app, BA_size, List.length_append, List.length_cons, List.length_nil]
  rw [if_pos (by omega), if_pos (by omega)]
  rfl
theorem showP_none {a b : Int} (h : ¬ okP a b) {k : Nat} (hk : 300 ≤ k) : spec_ShowPrefix.f k a b = some (⟨#[]⟩, 1) := by
  unfold spec_ShowPrefix.f
  rw [specOK_f _ _ (by omega), decide_eq_false h]
  rfl
theorem showP_impl {a b : Int} (h : okP a b) {k : Nat} (hk : 300 ≤ k) : impl_ShowPrefix.f k a b = some (BA (prefixL a b), 0) := by
  unfold impl_ShowPrefix.f
  have l1 := addrL_len h.1
  have hb := h.2.1
  have l2 := dec_len (a := b.toNat) (by omega)
  rw [implOK_f, decide_eq_true h, showA_impl h.1 hk, fmt_f (a := b) (by omega), show (⟨#[47]⟩ : ByteArray) = BA [47] from rfl]
  simp only [Option.bind_some, if_true, BA_app, BA_size, List.length_append, List.length_cons, List.length_nil]
  rw [if_pos (by omega), if_pos (by omega)]
  rfl
theorem showP_impl_none {a b : Int} (h : ¬ okP a b) {k : Nat} (hk : 300 ≤ k) : impl_ShowPrefix.f k a b = some (⟨#[]⟩, 1) := by
  unfold impl_ShowPrefix.f
  rw [implOK_f, decide_eq_false h]
  rfl

/-! ### number -/
/-- The number that digits behind a number tell. -/
def valD (a : Nat) (l : List UInt8) : Nat := l.foldl (fun a b => a * 10 + (b.toNat - 48)) a
theorem valD_nil (a : Nat) : valD a [] = a := by unfold valD; rw [List.foldl_nil]
theorem valD_cons (a : Nat) (b : UInt8) (l : List UInt8) : valD a (b :: l) = valD (a * 10 + (b.toNat - 48)) l := by unfold valD; rw [List.foldl_cons]
def digit (b : UInt8) : Prop := 48 ≤ b.toNat ∧ b.toNat ≤ 57
instance (b : UInt8) : Decidable (digit b) := by unfold digit; exact inferInstance
def digits (l : List UInt8) : Prop := ∀ b ∈ l, digit b
instance (l : List UInt8) : Decidable (digits l) := by unfold digits; exact inferInstance
theorem valD_app (l m : List UInt8) (a : Nat) : valD a (l ++ m) = valD (valD a l) m := List.foldl_append ..
theorem head_app {l : List UInt8} (h : l ≠ []) (m : List UInt8) : (l ++ m).head? = l.head? := by
  cases l with
  | nil => exact absurd rfl h
  | cons b l => rfl
theorem valD_lt (l : List UInt8) (h : digits l) : ∀ a, valD a l < (a + 1) * 10 ^ l.length ∧ a * 10 ^ l.length ≤ valD a l := by
  induction l with
  | nil => intro a; simp [valD_nil]
  | cons b l ih =>
    intro a
    have hb := h b (List.mem_cons_self ..)
    unfold digit at hb
    have := ih (fun x hx => h x (List.mem_cons_of_mem _ hx)) (a * 10 + (b.toNat - 48))
    rw [valD_cons, List.length_cons, Nat.pow_succ]
    have h2 : (a * 10 + (b.toNat - 48) + 1) * 10 ^ l.length ≤ (a + 1) * (10 ^ l.length * 10) := by
      rw [Nat.mul_comm (10 ^ l.length) 10, ← Nat.mul_assoc]
      exact Nat.mul_le_mul_right _ (by omega)
    have h3 : a * (10 ^ l.length * 10) ≤ (a * 10 + (b.toNat - 48)) * 10 ^ l.length := by
      rw [Nat.mul_comm (10 ^ l.length) 10, ← Nat.mul_assoc]
      exact Nat.mul_le_mul_right _ (by omega)
    omega
/-- A numeral without needless noughts. -/
def okL (d : Nat) (l : List UInt8) : Prop := (l ≠ [] ∧ l.length ≤ d) ∧ digits l ∧ (1 < l.length → l.head? ≠ some 48)
instance (d : Nat) (l : List UInt8) : Decidable (okL d l) := by unfold okL; exact inferInstance
theorem head_dec (n : Nat) (h : 1 ≤ n) : (Lib.decDigits n).head? ≠ some 48 := by
  induction n using Nat.strongRecOn with
  | _ n ih =>
    by_cases hn : n < 10
    · rw [Lib.decDigits_one hn]
      rcases (show n = 1 ∨ n = 2 ∨ n = 3 ∨ n = 4 ∨ n = 5 ∨ n = 6 ∨ n = 7 ∨ n = 8 ∨ n = 9 by omega) with rfl | rfl | rfl | rfl | rfl | rfl | rfl | rfl | rfl <;> decide
    · rw [Lib.decDigits, dif_neg hn]
      have := ih (n / 10) (by omega) (by omega)
      have hl : (Lib.decDigits (n / 10)) ≠ [] := by
        intro e
        have := Lib.decDigits_length (n / 10)
        have := Lib.nDigits_pos (n / 10)
        rw [e] at *
        simp at *
        omega
      rw [head_app hl]
      exact this
theorem dec_zero : Lib.decDigits 0 = [48] := Lib.decDigits_one (by decide)
theorem dec_back (l : List UInt8) : digits l → l ≠ [] → (1 < l.length → l.head? ≠ some 48) → Lib.decDigits (valD 0 l) = l := by
  induction h : l.length using Nat.strongRecOn generalizing l with
  | _ n ih =>
    intro hd hne hh
    obtain ⟨m, b, rfl⟩ : ∃ m b, l = m ++ [b] := ⟨l.dropLast, l.getLast hne, (List.dropLast_concat_getLast hne).symm⟩
    have hb := hd b (by simp)
    unfold digit at hb
    have hb2 : UInt8.ofNat b.toNat = b := UInt8.ofNat_toNat
    rw [valD_app]
    by_cases hm : m = []
    · subst hm
      simp only [valD_cons, valD_nil, Nat.zero_mul, Nat.zero_add, List.nil_append]
      rw [Lib.decDigits_one (by omega), show 48 + (b.toNat - 48) = b.toNat from by omega, hb2]
    · have hml : 0 < m.length := List.length_pos_iff.2 hm
      have hh2 : m.head? ≠ some 48 := by
        have := hh (by rw [← h, List.length_append, List.length_cons, List.length_nil]; omega)
        rwa [head_app hm] at this
      have hdm : digits m := fun x hx => hd x (by simp [hx])
      have e := ih m.length (by simp at h; omega) m rfl hdm hm (fun _ => hh2)
      have hpos : 1 ≤ valD 0 m := by
        rcases Nat.eq_zero_or_pos (valD 0 m) with h0 | h0
        · rw [h0, dec_zero] at e
          rw [← e] at hh2
          simp at hh2
        · exact h0
      simp only [valD_cons, valD_nil]
      rw [Lib.decDigits, dif_neg (by omega), show (valD 0 m * 10 + (b.toNat - 48)) / 10 = valD 0 m from by omega, e, show 48 + (valD 0 m * 10 + (b.toNat - 48)) % 10 = b.toNat from by omega, hb2]
/-- The reference's numeral test: exactly the numerals without needless noughts. -/
theorem dec_iff (l : List UInt8) (hd : digits l) (hne : l ≠ []) : Lib.decDigits (valD 0 l) = l ↔ (1 < l.length → l.head? ≠ some 48) := by
  constructor
  · intro e hl
    rcases Nat.eq_zero_or_pos (valD 0 l) with h0 | h0
    · rw [h0, dec_zero] at e
      rw [← e] at hl
      simp at hl
    · rw [← e]
      exact head_dec _ h0
  · exact dec_back l hd hne

/-! ### numimpl -/
theorem sub48 {b : UInt8} (h : digit b) : ((b.toNat : Int) - 48) % 256 = ((b.toNat - 48 : Nat) : Int) := by
  unfold digit at h
  omega
theorem rd_bytes (s : ByteArray) {i : Nat} (h : i < s.data.toList.length) : rd (bytesOf s) (i : Int) = ((s.data.toList[i]).toNat : Int) := by
  rw [rd_at (by unfold bytesOf; simpa using h)]
  simp [bytesOf]
theorem pow10_le {i : Nat} (h : i ≤ 17) : 10 ^ i ≤ 100000000000000000 := by
  have := Nat.pow_le_pow_right (n := 10) (by decide) h
  exact this
theorem idec_l (s : ByteArray) (hs : s.data.toList.length ≤ 18) (d : Nat) : ∀ (k i v : Nat), i + d = s.data.toList.length → d < k → v < 10 ^ i →
    impl_decimal.l0 k (v : Int) (bytesOf s) (s.data.toList.length : Int) (i : Int) = some (if digits (s.data.toList.drop i) then ((valD v (s.data.toList.drop i) : Int), true) else (0, false)) := by
  have hlen : (bytesOf s).length = s.data.toList.length := by unfold bytesOf; rw [List.length_map]
  induction d with
  | zero =>
    intro k i v hi hk hv
    obtain ⟨k, rfl⟩ : ∃ m, k = m + 1 := ⟨k - 1, by omega⟩
    rw [impl_decimal.l0, if_neg (by omega), show s.data.toList.drop i = [] from List.drop_eq_nil_of_le (by omega), if_pos (by intro b hb; cases hb), valD_nil]
  | succ d ih =>
    intro k i v hi hk hv
    obtain ⟨k, rfl⟩ : ∃ m, k = m + 1 := ⟨k - 1, by omega⟩
    have hlt : i < s.data.toList.length := by omega
    have hw : wrap64 ((i : Int) + 1) = ((i + 1 : Nat) : Int) := by rw [wr64 (by omega)]; omega
    have hp := pow10_le (i := i) (by omega)
    rw [impl_decimal.l0, if_pos (by omega), if_pos (by omega), if_pos (by omega), rd_bytes s hlt, List.drop_eq_getElem_cons hlt, hw]
    have hcons : digits (s.data.toList[i] :: s.data.toList.drop (i + 1)) ↔ digit s.data.toList[i] ∧ digits (s.data.toList.drop (i + 1)) := by
      unfold digits
      exact List.forall_mem_cons
    generalize s.data.toList[i] = b at hcons ⊢
    by_cases hb : digit b
    · have hb' := hb
      unfold digit at hb'
      rw [if_neg (by omega), if_neg (by omega), sub48 hb, wr64 (a := (v : Int) * 10) (by omega), wr64 (by omega), show (v : Int) * 10 + ((b.toNat - 48 : Nat) : Int) = ((v * 10 + (b.toNat - 48) : Nat) : Int) from by omega, ih k (i + 1) _ (by omega) (by omega) (by rw [Nat.pow_succ]; omega), valD_cons]
      congr 1
      by_cases hd : digits (s.data.toList.drop (i + 1))
      · rw [if_pos hd, if_pos (hcons.2 ⟨hb, hd⟩)]
      · rw [if_neg hd, if_neg (fun h => hd (hcons.1 h).2)]
    · rw [if_neg (fun h => hb (hcons.1 h).1)]
      unfold digit at hb
      by_cases h1 : (b.toNat : Int) < 48
      · rw [if_pos h1]
      · rw [if_neg h1, if_pos (by omega)]
theorem idec_f (s : ByteArray) {d k : Nat} (hd : d ≤ 18) (hk : d + 2 < k) : impl_decimal.f k s (d : Int) = some (if okL d s.data.toList then ((valD 0 s.data.toList : Int), true) else (0, false)) := by
  have hsz := Lib.size_eq s
  obtain ⟨k, rfl⟩ : ∃ m, k = m + 1 := ⟨k - 1, by omega⟩
  have jt : impl_decimal.j0 (k + 1) s true = some (0, false) := by rw [impl_decimal.j0, if_pos rfl]
  unfold impl_decimal.f
  by_cases h0 : s.data.toList = []
  · rw [if_pos (by rw [hsz, h0]; rfl), jt, if_neg (show ¬ okL d s.data.toList from fun h => h.1.1 h0)]
  · have hpos : 0 < s.data.toList.length := List.length_pos_iff.2 h0
    rw [if_neg (by omega)]
    by_cases h1 : s.data.toList.length ≤ d
    · rw [if_neg (by omega)]
      have jf : impl_decimal.j0 (k + 1) s false = some (if digits s.data.toList then ((valD 0 s.data.toList : Int), true) else (0, false)) := by
        rw [impl_decimal.j0, if_neg (by decide), if_pos (by omega)]
        simp only [Option.bind_some]
        have := idec_l s (by omega) s.data.toList.length k 0 0 (by omega) (by omega) (by simp)
        rw [show (bytesOf s).length = s.data.toList.length from by unfold bytesOf; rw [List.length_map]]
        simpa using this
      by_cases h2 : 1 < s.data.toList.length
      · rw [if_pos (by omega), if_pos (by omega), show (0 : Int) = ((0 : Nat) : Int) from rfl, bt_list s (i := 0) hpos]
        have hh : s.data.toList.head? = some s.data.toList[0] := List.head?_eq_getElem? ▸ List.getElem?_eq_getElem hpos
        by_cases h3 : s.data.toList[0] = 48
        · rw [h3, show (((48 : UInt8).toNat : Int) == 48) = true from by decide, jt, if_neg (show ¬ okL d s.data.toList from fun h => h.2.2 h2 (by rw [hh, h3]))]
          rfl
        · rw [show (((s.data.toList[0]).toNat : Int) == 48) = false from by
            rw [beq_eq_false_iff_ne]
            intro e
            exact h3 (UInt8.toNat_inj.1 (by show _ = 48; omega)), jf]
          congr 1
          by_cases hd : digits s.data.toList
          · rw [if_pos hd, if_pos (show okL d s.data.toList from ⟨⟨h0, h1⟩, hd, fun _ => by rw [hh]; simpa using h3⟩)]
          · rw [if_neg hd, if_neg (show ¬ okL d s.data.toList from fun h => hd h.2.1)]
            rfl
      · rw [if_neg (by omega), jf]
        congr 1
        by_cases hd : digits s.data.toList
        · rw [if_pos hd, if_pos (show okL d s.data.toList from ⟨⟨h0, h1⟩, hd, fun h => absurd h h2⟩)]
        · rw [if_neg hd, if_neg (show ¬ okL d s.data.toList from fun h => hd h.2.1)]
    · rw [if_pos (by omega), jt, if_neg (show ¬ okL d s.data.toList from fun h => h1 h.1.2)]

/-! ### numspec -/
theorem sub48' {b : UInt8} (h : digit b) : ((b.toNat : Int) - 48) % 256 = ((b.toNat - 48 : Nat) : Int) := by
  unfold digit at h
  omega
theorem pow10_le7 {i : Nat} (h : i ≤ 7) : 10 ^ i ≤ 10000000 := by
  have := Nat.pow_le_pow_right (n := 10) (by decide) h
  exact this
theorem snum_l (s : ByteArray) (hs : s.data.toList.length ≤ 7) (N : Nat) (hN : 10 ^ s.data.toList.length ≤ N) (d : Nat) : ∀ (k i v : Nat), i + d = s.data.toList.length → d + N < k → v < 10 ^ i →
    spec_l02Number.l0 k s (v : Int) (i : Int) = some (if digits (s.data.toList.drop i) then ((valD v (s.data.toList.drop i) : Int), Lib.decDigits (valD v (s.data.toList.drop i)) == s.data.toList) else (0, false)) := by
  have hsz := Lib.size_eq s
  induction d with
  | zero =>
    intro k i v hi hk hv
    obtain ⟨k, rfl⟩ : ∃ m, k = m + 1 := ⟨k - 1, by omega⟩
    have hi' : i = s.data.toList.length := by omega
    have hp := pow10_le7 hs
    rw [← hi'] at hN hp
    have hv2 : v < k + 1 := by omega
    have hv3 : v ≤ 100000000 := by omega
    generalize 10 ^ i = P at *
    rw [spec_l02Number.l0, if_neg (by omega), show s.data.toList.drop i = [] from List.drop_eq_nil_of_le (by omega), if_pos (by intro b hb; cases hb), valD_nil, dec_i (by omega)]
    simp only [Option.bind_some, Int.toNat_natCast]
    rw [Lib.toList_data, Lib.toList_data, BA_data]
  | succ d ih =>
    intro k i v hi hk hv
    obtain ⟨k, rfl⟩ : ∃ m, k = m + 1 := ⟨k - 1, by omega⟩
    have hlt : i < s.data.toList.length := by omega
    have hw : wrap64 ((i : Int) + 1) = ((i + 1 : Nat) : Int) := by rw [wr64 (by omega)]; omega
    have hp := pow10_le7 (i := i) (by omega)
    have hpw : (v * 10 + 9) < 10 ^ (i + 1) := by rw [Nat.pow_succ]; omega
    have hv7 : v < 10000000 := by omega
    clear hp
    rw [spec_l02Number.l0, if_pos (by omega), if_pos (by omega), bt_list s hlt, List.drop_eq_getElem_cons hlt, hw]
    have hcons : digits (s.data.toList[i] :: s.data.toList.drop (i + 1)) ↔ digit s.data.toList[i] ∧ digits (s.data.toList.drop (i + 1)) := by
      unfold digits
      exact List.forall_mem_cons
    generalize s.data.toList[i] = b at hcons ⊢
    by_cases hb : digit b
    · have hb' := hb
      unfold digit at hb'
      rw [if_neg (by omega), if_neg (by omega), sub48' hb, wr64 (a := (v : Int) * 10) (by omega), wr64 (by omega), show (v : Int) * 10 + ((b.toNat - 48 : Nat) : Int) = ((v * 10 + (b.toNat - 48) : Nat) : Int) from by omega, ih k (i + 1) _ (by omega) (by omega) (by omega), valD_cons]
      congr 1
      by_cases hd : digits (s.data.toList.drop (i + 1))
      · rw [if_pos hd, if_pos (hcons.2 ⟨hb, hd⟩)]
      · rw [if_neg hd, if_neg (fun h => hd (hcons.1 h).2)]
    · rw [if_neg (fun h => hb (hcons.1 h).1)]
      unfold digit at hb
      by_cases h1 : (b.toNat : Int) < 48
      · rw [if_pos h1]
      · rw [if_neg h1, if_pos (by omega)]
theorem snum_f (s : ByteArray) {d k : Nat} (hd : d ≤ 7) (hk : 10000020 < k) : ∃ v : Int, spec_l02Number.f k s (d : Int) = some (v, decide (okL d s.data.toList)) ∧ (okL d s.data.toList → v = valD 0 s.data.toList) := by
  have hsz := Lib.size_eq s
  obtain ⟨k, rfl⟩ : ∃ m, k = m + 1 := ⟨k - 1, by omega⟩
  have jt : spec_l02Number.j0 (k + 1) s true = some (0, false) := by rw [spec_l02Number.j0, if_pos rfl]
  unfold spec_l02Number.f
  by_cases h0 : s.data.toList = []
  · have hn : ¬ okL d s.data.toList := fun h => h.1.1 h0
    exact ⟨0, by rw [if_pos (by rw [hsz, h0]; decide), jt, decide_eq_false hn], fun h => absurd h hn⟩
  · have hpos : 0 < s.data.toList.length := List.length_pos_iff.2 h0
    rw [if_neg (by omega)]
    by_cases h1 : s.data.toList.length ≤ d
    · rw [decide_eq_false (by omega), spec_l02Number.j0, if_neg (by decide)]
      have hp := pow10_le7 (i := s.data.toList.length) (by omega)
      have := snum_l s (by omega) 10000000 hp s.data.toList.length k 0 0 (by omega) (by omega) (by simp)
      rw [List.drop_zero] at this
      refine ⟨if digits s.data.toList then (valD 0 s.data.toList : Int) else 0, this.trans ?_, ?_⟩
      · congr 1
        by_cases hd : digits s.data.toList
        · rw [if_pos hd, if_pos hd]
          congr 1
          rw [Bool.eq_iff_iff, beq_iff_eq, decide_eq_true_eq, dec_iff _ hd h0]
          unfold okL
          exact ⟨fun h => ⟨⟨h0, h1⟩, hd, h⟩, fun h => h.2.2⟩
        · rw [if_neg hd, if_neg hd, decide_eq_false (fun h => hd h.2.1)]
      · intro h
        rw [if_pos h.2.1]
    · have hn : ¬ okL d s.data.toList := fun h => h1 h.1.2
      exact ⟨0, by rw [decide_eq_true (by omega), jt, decide_eq_false hn], fun h => absurd h hn⟩

/-! ### rdba -/
theorem rd_BA {ps : List (List UInt8)} {i : Nat} (h : i < ps.length) : rdOf ByteArray.empty (ps.map BA) (i : Int) = BA ps[i] := by
  unfold rdOf
  rw [Int.toNat_natCast, List.getD_eq_getElem?_getD, List.getElem?_eq_getElem (by simpa using h)]
  simp

/-! ### readaddr -/
theorem or_8 {a b : Int} (ha : 0 ≤ a ∧ a < 1099511627776) (hb : 0 ≤ b ∧ b ≤ 255) : Go.bits .or .i64 (a * 256) b = a * 256 + b :=
  bits_join .i64 63 (by decide) wraps_i64 8 (a * 256) b (by omega) (by omega) (by omega) hb.1 (by omega) (by omega)
theorem val3 {l : List UInt8} (h : okL 3 l) : valD 0 l < 1000 := by
  have h1 := (valD_lt l h.2.1 0).1
  have h2 := Nat.pow_le_pow_right (n := 10) (by decide) h.1.2
  omega
theorem addr_l (ps : List (List UInt8)) (hps : ps.length = 4) (d : Nat) : ∀ (k i : Nat) (a : Int), i + d = 4 → d + 10000030 < k → 0 ≤ a → a < 256 ^ i →
    ∃ r, impl_ReadAddr.l0 k (ps.map BA) a 4 (i : Int) = some r ∧ spec_ReadAddr.l0 k (ps.map BA) a (i : Int) = some r ∧ 0 ≤ r.1 ∧ r.1 ≤ 4294967295 := by
  have hpl : ((ps.map BA).length : Int) = 4 := by rw [List.length_map, hps]; rfl
  induction d with
  | zero =>
    intro k i a hi hk h0 h1
    obtain ⟨k, rfl⟩ : ∃ m, k = m + 1 := ⟨k - 1, by omega⟩
    obtain rfl : i = 4 := by omega
    rw [impl_ReadAddr.l0, spec_ReadAddr.l0, if_neg (by omega), if_neg (by omega)]
    exact ⟨_, rfl, rfl, h0, by have : (256 : Int) ^ 4 = 4294967296 := by decide
                               omega⟩
  | succ d ih =>
    intro k i a hi hk h0 h1
    obtain ⟨k, rfl⟩ : ∃ m, k = m + 1 := ⟨k - 1, by omega⟩
    have hlt : i < ps.length := by omega
    have hw : wrap64 ((i : Int) + 1) = ((i + 1 : Nat) : Int) := by rw [wr64 (by omega)]; omega
    have hp : a < 16777216 := by
      rcases (show i = 0 ∨ i = 1 ∨ i = 2 ∨ i = 3 by omega) with rfl | rfl | rfl | rfl <;> omega
    have hps1 : (256 : Int) ^ (i + 1) = 256 ^ i * 256 := Int.pow_succ ..
    have e1 := idec_f (BA ps[i]) (d := 3) (k := k) (by decide) (by omega)
    obtain ⟨v, e2, e3⟩ := snum_f (BA ps[i]) (d := 3) (k := k) (by decide) (by omega)
    rw [show ((3 : Nat) : Int) = 3 from rfl, BA_data] at e1 e2
    rw [BA_data] at e3
    rw [impl_ReadAddr.l0, spec_ReadAddr.l0, if_pos (by omega), if_pos (by omega), if_pos (by omega), if_pos (by omega), if_pos (by omega), if_pos (by omega), rd_BA hlt, e1, e2, hw]
    simp only [Option.bind_some]
    by_cases hok : okL 3 ps[i]
    · have hv := e3 hok
      have h3 := val3 hok
      rw [hv]
      simp only [hok, decide_true, if_true]
      by_cases hb : (valD 0 ps[i] : Int) > 255
      · rw [if_pos hb, if_pos hb]
        exact ⟨_, rfl, rfl, by decide, by decide⟩
      · rw [if_neg hb, if_neg hb, wr64 (a := a * 256) (by omega), or_8 (by omega) (by omega), wr64 (by omega)]
        exact ih k (i + 1) _ (by omega) (by omega) (by omega) (by omega)
    · simp only [hok, decide_false, Bool.false_eq_true, if_false]
      exact ⟨_, rfl, rfl, by decide, by decide⟩
theorem addr_long (ps : List (List UInt8)) (hps : ps.length = 4) (d : Nat) : ∀ (k i : Nat) (a : Int), i + d = 4 → d + 10000030 < k → 12 < ((ps.drop i).map List.length).sum + 3 * i → impl_ReadAddr.l0 k (ps.map BA) a 4 (i : Int) = some (0, 6) := by
  have hpl : ((ps.map BA).length : Int) = 4 := by rw [List.length_map, hps]; rfl
  induction d with
  | zero =>
    intro k i a hi hk hs
    obtain rfl : i = 4 := by omega
    rw [List.drop_eq_nil_of_le (by omega)] at hs
    simp at hs
  | succ d ih =>
    intro k i a hi hk hs
    obtain ⟨k, rfl⟩ : ∃ m, k = m + 1 := ⟨k - 1, by omega⟩
    have hlt : i < ps.length := by omega
    have hw : wrap64 ((i : Int) + 1) = ((i + 1 : Nat) : Int) := by rw [wr64 (by omega)]; omega
    have e1 := idec_f (BA ps[i]) (d := 3) (k := k) (by decide) (by omega)
    rw [show ((3 : Nat) : Int) = 3 from rfl, BA_data] at e1
    rw [impl_ReadAddr.l0, if_pos (by omega), if_pos (by omega), if_pos (by omega), rd_BA hlt, e1, hw]
    simp only [Option.bind_some]
    by_cases hok : okL 3 ps[i]
    · simp only [hok, if_true]
      split
      · rfl
      · refine ih k (i + 1) _ (by omega) (by omega) ?_
        rw [List.drop_eq_getElem_cons hlt] at hs
        simp only [List.map_cons, List.sum_cons] at hs
        have := hok.1.2
        omega
    · simp only [hok, Bool.false_eq_true, if_false]
theorem readA_f (s : ByteArray) (hs : s.size ≤ 1048576) {k : Nat} (hk : 12000000 < k) : ∃ r, impl_ReadAddr.f k s = some r ∧ spec_ReadAddr.f k s = some r ∧ 0 ≤ r.1 ∧ r.1 ≤ 4294967295 := by
  have hsz := Lib.size_eq s
  have hl := cutA_len 46 s.data.toList []
  unfold impl_ReadAddr.f spec_ReadAddr.f
  rw [show (⟨#[46]⟩ : ByteArray) = BA [46] from rfl, split_f hs, show (46 : Int) = ((46 : UInt8).toNat : Int) from rfl, scut_f s 46 hs (by omega)]
  simp only [Option.bind_some]
  rw [List.length_map]
  by_cases h15 : (s.size : Int) > 15
  · rw [if_pos h15]
    by_cases h4 : (cutA 46 [] s.data.toList).length = 4
    · rw [h4, if_pos (show ((4 : Nat) : Int) = 4 from rfl), show ((4 : Nat) : Int) = 4 from rfl]
      refine ⟨_, addr_long _ h4 4 k 0 0 (by omega) (by omega) ?_, rfl, by decide, by decide⟩
      rw [List.drop_zero]
      simp only [List.length_nil] at hl
      omega
    · rw [if_neg (by omega)]
      exact ⟨_, rfl, rfl, by decide, by decide⟩
  · rw [if_neg h15]
    by_cases h4 : (cutA 46 [] s.data.toList).length = 4
    · rw [h4, if_pos (show ((4 : Nat) : Int) = 4 from rfl), if_pos (show ((4 : Nat) : Int) = 4 from rfl), show ((4 : Nat) : Int) = 4 from rfl]
      exact addr_l _ h4 4 k 0 0 (by omega) (by omega) (by decide) (by decide)
    · rw [if_neg (by omega), if_neg (by omega)]
      exact ⟨_, rfl, rfl, by decide, by decide⟩

/-! ### readprefix -/
theorem readA_short (s : ByteArray) (hs : s.size ≤ 1048576) {k : Nat} (hk : 12000000 < k) {r : Int × Int} (h : impl_ReadAddr.f k s = some r) (h0 : r.2 = 0) : s.size ≤ 15 := by
  obtain ⟨q, e1, e2, _⟩ := readA_f s hs hk
  have hq : r = q := Option.some.inj (h.symm.trans e1)
  subst hq
  by_cases h15 : (s.size : Int) > 15
  · unfold spec_ReadAddr.f at e2
    rw [if_pos h15] at e2
    have := Option.some.inj e2
    rw [← this] at h0
    cases h0
  · omega
theorem cut_BA (s : ByteArray) (c : UInt8) (hs : s.size ≤ 1048576) : strings_Cut.f s (BA [c]) = some (BA (Lib.cut s.data.toList [c]).1, BA (Lib.cut s.data.toList [c]).2.1, (Lib.cut s.data.toList [c]).2.2) := by
  unfold strings_Cut.f
  rw [if_pos (by omega), BA_data]
  rfl
theorem fail_if (c : Prop) [Decidable c] (x : Int × Int × Int) : (if c then (some x : Option (Int × Int × Int)) else some x) = some x := ite_self _
theorem readP_f (s : ByteArray) (hs : s.size ≤ 1048576) {k : Nat} (hk : 12000000 < k) : ∃ r, impl_ReadPrefix.f k s = some r ∧ spec_ReadPrefix.f k s = some r := by
  have hsz := Lib.size_eq s
  unfold impl_ReadPrefix.f spec_ReadPrefix.f
  rw [show (⟨#[47]⟩ : ByteArray) = BA [47] from rfl, cut_BA s 47 hs, show (47 : Int) = ((47 : UInt8).toNat : Int) from rfl, scut_f s 47 hs (by omega)]
  simp only [Option.bind_some]
  rw [List.length_map]
  have two : ((2 : Nat) : Int) = 2 := rfl
  -- the program fails where the second part is no numeral
  have bad : ∀ a b : List UInt8, a.length ≤ 1048576 → ¬ okL 2 b → ((impl_ReadAddr.f k (BA a)).bind fun bt161 => ((impl_decimal.f k (BA b) 2).bind fun bt163 => (if bt161.2 = 0 then (if bt163.2 = true then ((impl_okPrefix.f bt161.1 bt163.1).bind fun t166 => (if t166 = true then (some (bt161.1, bt163.1, (0 : Int))) else (some (0, 0, 6)))) else (some (0, 0, 6))) else (some (0, 0, 6))))) = some (0, 0, 6) := by
    intro a b ha hb
    obtain ⟨q, e1, _⟩ := readA_f (BA a) (by rw [BA_size]; exact ha) hk
    have e2 := idec_f (BA b) (d := 2) (k := k) (by decide) (by omega)
    rw [two, BA_data, if_neg hb] at e2
    rw [e1, e2]
    simp only [Option.bind_some, Bool.false_eq_true, if_false, ite_self]
  rcases index_cut 47 s.data.toList with ⟨h1, h2⟩ | ⟨i, h1, h2, h3⟩
  · -- no cut
    have ec : Lib.cut s.data.toList [47] = (s.data.toList, [], false) := by
      unfold Lib.cut
      rw [h1, if_neg (by decide)]
    rw [ec, h2]
    refine ⟨(0, 0, 6), bad s.data.toList [] (by omega) (fun h => h.1.1 rfl), ?_⟩
    rw [if_neg (show ¬ ((([[] ++ s.data.toList] : List (List UInt8)).length : Int) = 2) by simp), ite_self]
  · have ec : Lib.cut s.data.toList [47] = (s.data.toList.take i, s.data.toList.drop (i + 1), true) := by
      unfold Lib.cut
      rw [h1, if_pos (by omega)]
      rfl
    rw [ec, h3]
    simp only [List.nil_append]
    have hla : (s.data.toList.take i).length = i := by rw [List.length_take]; omega
    have hlb : (s.data.toList.drop (i + 1)).length = s.data.toList.length - (i + 1) := List.length_drop ..
    generalize s.data.toList.take i = a at *
    generalize s.data.toList.drop (i + 1) = b at *
    rcases index_cut 47 b with ⟨g1, g2⟩ | ⟨j, g1, g2, g3⟩
    · -- two parts
      rw [g2, show ((a :: [[] ++ b] : List (List UInt8)).length : Int) = 2 from rfl]
      simp only [List.nil_append, List.map_cons, List.map_nil]
      rw [if_pos trivial, if_pos (show (0 : Int) < 2 by decide), show rdOf ByteArray.empty [BA a, BA b] 0 = BA a from rfl, show rdOf ByteArray.empty [BA a, BA b] 1 = BA b from rfl]
      simp only [show ((1 : Int) < 2) = True from eq_true (by decide), if_true]
      obtain ⟨q, e1, e2, q0, q1⟩ := readA_f (BA a) (by rw [BA_size]; omega) hk
      have sh := fun h => readA_short (BA a) (by rw [BA_size]; omega) hk e1 h
      rw [BA_size] at sh
      have e3 := idec_f (BA b) (d := 2) (k := k) (by decide) (by omega)
      obtain ⟨v, e4, e5⟩ := snum_f (BA b) (d := 2) (k := k) (by decide) (by omega)
      rw [two, BA_data] at e3 e4
      rw [BA_data] at e5
      rw [e1, e2, e3, e4]
      simp only [Option.bind_some]
      by_cases hb : okL 2 b
      · have hv := e5 hb
        have hb2 := hb.1.2
        subst hv
        simp only [hb, decide_true, if_true]
        by_cases h0 : q.2 = 0
        · have := sh h0
          rw [if_pos h0, if_pos h0, if_neg (by omega), implOK_f, specOK_f _ _ (by omega)]
          by_cases ho : okP q.1 (valD 0 b : Int)
          · simp only [ho, decide_true, Option.bind_some, if_true]
            exact ⟨_, rfl, rfl⟩
          · simp only [ho, decide_false, Option.bind_some, Bool.false_eq_true, if_false]
            exact ⟨_, rfl, rfl⟩
        · rw [if_neg h0, if_neg h0, ite_self]
          exact ⟨_, rfl, rfl⟩
      · simp only [hb, decide_false, Bool.false_eq_true, if_false, ite_self]
        exact ⟨_, rfl, rfl⟩
    · -- three parts or more
      refine ⟨(0, 0, 6), bad a b (by omega) (fun h => ?_), ?_⟩
      · have hm : (47 : UInt8) ∈ b := by
          have hq := g3 []
          have := Lib.index_spec b [47]
          rcases this with ⟨t1, _⟩ | ⟨t, t1, t2, t3, _⟩
          · omega
          · have t4 : t = j := by omega
            subst t4
            unfold Lib.occAt at t3
            rw [List.drop_eq_getElem_cons g2] at t3
            simp only [List.isPrefixOf, Bool.and_true, beq_iff_eq] at t3
            rw [t3]
            exact List.getElem_mem g2
        have := h.2.1 _ hm
        revert this
        decide
      · have := cutA_pos 47 (b.drop (j + 1)) []
        rw [g3]
        generalize cutA 47 [] (b.drop (j + 1)) = ys at *
        rw [if_neg (show ¬ (((a :: ([] ++ b.take j) :: ys).length : Nat) : Int) = 2 by rw [List.length_cons, List.length_cons]; omega), ite_self]

/-! ### readmac -/
/-- A hexadecimal digit's number, or -1. -/
def hexv (b : UInt8) : Int := if 48 ≤ b.toNat ∧ b.toNat ≤ 57 then (b.toNat : Int) - 48 else if 97 ≤ b.toNat ∧ b.toNat ≤ 102 then (b.toNat : Int) - 87 else if 65 ≤ b.toNat ∧ b.toNat ≤ 70 then (b.toNat : Int) - 55 else -1
theorem hexv_in (b : UInt8) : -1 ≤ hexv b ∧ hexv b ≤ 15 := by
  unfold hexv
  repeat' split
  all_goals omega
theorem hexv_58 : hexv 58 = -1 := by decide
theorem hex_fin : ∀ n : Fin 256, let t := Lib.indexByte [48, 49, 50, 51, 52, 53, 54, 55, 56, 57, 97, 98, 99, 100, 101, 102, 65, 66, 67, 68, 69, 70] (UInt8.ofNat n.val); (if t < 0 then (-1 : Int) else if t > 15 then t - 6 else t) = hexv (UInt8.ofNat n.val) ∧ t ≤ 21 := by decide +kernel
theorem hex_idx (b : UInt8) : ∃ t, strings_IndexByte.f (⟨#[48, 49, 50, 51, 52, 53, 54, 55, 56, 57, 97, 98, 99, 100, 101, 102, 65, 66, 67, 68, 69, 70]⟩ : ByteArray) (b.toNat : Int) = some t ∧ (if t < 0 then (-1 : Int) else if t > 15 then t - 6 else t) = hexv b ∧ t ≤ 21 := by
  have h := hex_fin ⟨b.toNat, b.toNat_lt⟩
  have e : UInt8.ofNat b.toNat = b := UInt8.ofNat_toNat
  simp only [e] at h
  refine ⟨_, ?_, h.1, h.2⟩
  unfold strings_IndexByte.f
  rw [Int.toNat_natCast, show b.toNat.toUInt8 = b from e]
def two (a b : UInt8) (m : Int) : Int := (m * 16 + hexv a) * 16 + hexv b
def macP : Nat → List UInt8 → Int → Int × Int
  | 0, [a, b], m => if hexv a < 0 then (0, 6) else if hexv b < 0 then (0, 6) else (two a b m, 0)
  | g + 1, a :: b :: c :: r, m => if hexv a < 0 then (0, 6) else if hexv b < 0 then (0, 6) else if c = 58 then macP g r (two a b m) else (0, 6)
  | _, _, _ => (0, 6)
def macQ : List (List UInt8) → Int → Int × Int
  | [], m => (m, 0)
  | [a, b] :: ps, m => if hexv a < 0 then (0, 6) else if hexv b < 0 then (0, 6) else macQ ps (two a b m)
  | _ :: _, _ => (0, 6)
theorem cutA_first (c : UInt8) (l : List UInt8) : ∀ cur, ∃ t ts, cutA c cur l = (cur ++ t) :: ts := by
  induction l with
  | nil => intro cur; exact ⟨[], [], by simp [cutA]⟩
  | cons b l ih =>
    intro cur
    rw [cutA]
    split
    · exact ⟨[], _, by rw [List.append_nil]⟩
    · obtain ⟨t, ts, e⟩ := ih (cur ++ [b])
      exact ⟨[b] ++ t, ts, by rw [e, List.append_assoc]⟩
theorem macQ_long {a b c : UInt8} {t : List UInt8} {ts : List (List UInt8)} {m : Int} : macQ ((a :: b :: c :: t) :: ts) m = (0, 6) := by rw [macQ]; simp
theorem macPQ (g : Nat) : ∀ (L : List UInt8) (m : Int), (if (cutA 58 [] L).length = g + 1 then macQ (cutA 58 [] L) m else (0, 6)) = macP g L m := by
  induction g with
  | zero =>
    intro L m
    match L with
    | [] => simp [cutA, macQ, macP]
    | [a] =>
      by_cases ha : a = 58
      · subst ha; simp [cutA, macP]
      · simp [cutA, ha, macQ, macP]
    | [a, b] =>
      by_cases ha : a = 58
      · subst ha
        have := cutA_pos 58 [b] []
        rw [cutA, if_pos rfl, if_neg (by rw [List.length_cons]; omega)]
        simp only [macP, hexv_58]
        rfl
      · by_cases hb : b = 58
        · subst hb
          simp [cutA, ha, macP, hexv_58]
        · simp [cutA, ha, hb, macQ, macP]
    | a :: b :: c :: r =>
      rw [show macP 0 (a :: b :: c :: r) m = (0, 6) from by simp [macP]]
      by_cases ha : a = 58
      · subst ha
        have := cutA_pos 58 (b :: c :: r) []
        rw [cutA, if_pos rfl, if_neg (by rw [List.length_cons]; omega)]
      · by_cases hb : b = 58
        · subst hb
          have := cutA_pos 58 (c :: r) []
          rw [cutA, if_neg ha, cutA, if_pos rfl, if_neg (by rw [List.length_cons]; omega)]
        · by_cases hc : c = 58
          · subst hc
            have := cutA_pos 58 r []
            rw [cutA, if_neg ha, cutA, if_neg hb, cutA, if_pos rfl, if_neg (by rw [List.length_cons]; omega)]
          · rw [cutA, if_neg ha, cutA, if_neg hb, cutA, if_neg hc]
            obtain ⟨t, ts, e⟩ := cutA_first 58 r ([] ++ [a] ++ [b] ++ [c])
            rw [e]
            simp only [List.nil_append, List.cons_append]
            rw [macQ_long, ite_self]
  | succ g ih =>
    intro L m
    match L with
    | [] => simp [cutA, macP]
    | [a] =>
      by_cases ha : a = 58
      · subst ha
        simp [cutA, macQ, macP]
      · simp [cutA, ha, macP]
    | [a, b] =>
      rw [show macP (g + 1) [a, b] m = (0, 6) from by simp [macP]]
      by_cases ha : a = 58
      · subst ha
        rw [cutA, if_pos rfl, show macQ ([] :: cutA 58 [] [b]) m = (0, 6) from by rw [macQ]; simp, ite_self]
      · by_cases hb : b = 58
        · subst hb
          simp [cutA, ha, macQ]
        · simp [cutA, ha, hb]
    | a :: b :: c :: r =>
      rw [macP]
      by_cases ha : a = 58
      · subst ha
        rw [cutA, if_pos rfl, show macQ ([] :: cutA 58 [] (b :: c :: r)) m = (0, 6) from by rw [macQ]; simp, ite_self, if_pos (by decide)]
      · by_cases hb : b = 58
        · subst hb
          rw [cutA, if_neg ha, cutA, if_pos rfl]
          simp only [List.nil_append]
          rw [show macQ ([a] :: cutA 58 [] (c :: r)) m = (0, 6) from by rw [macQ]; simp, ite_self, if_pos (show hexv 58 < 0 by decide), ite_self]
        · by_cases hc : c = 58
          · subst hc
            rw [cutA, if_neg ha, cutA, if_neg hb, cutA, if_pos rfl, if_pos rfl]
            simp only [List.nil_append, List.cons_append, List.length_cons, Nat.add_right_cancel_iff]
            rw [macQ, ← ih r (two a b m)]
            by_cases h1 : hexv a < 0
            · rw [if_pos h1, if_pos h1, ite_self]
            · by_cases h2 : hexv b < 0
              · rw [if_neg h1, if_neg h1, if_pos h2, if_pos h2, ite_self]
              · rw [if_neg h1, if_neg h1, if_neg h2, if_neg h2]
          · rw [cutA, if_neg ha, cutA, if_neg hb, cutA, if_neg hc, if_neg hc]
            obtain ⟨t, ts, e⟩ := cutA_first 58 r ([] ++ [a] ++ [b] ++ [c])
            rw [e]
            simp only [List.nil_append, List.cons_append]
            rw [macQ_long, ite_self, ite_self, ite_self]
theorem or_4 {a b : Int} (ha : 0 ≤ a ∧ a < 281474976710656) (hb : 0 ≤ b ∧ b ≤ 15) : Go.bits .or .i64 (a * 16) b = a * 16 + b :=
  bits_join .i64 63 (by decide) wraps_i64 4 (a * 16) b (by omega) (by omega) (by omega) hb.1 (by omega) (by omega)
theorem imac_1 {k : Nat} {P : List ByteArray} {m n i : Int} {xs : List Int} {j : Nat} {b : UInt8} {len : Int} (hm : 0 ≤ m ∧ m < 281474976710656) (hj : (j : Int) < len) (hx : j < xs.length) (hn : xs.length ≤ 1000) (hb : rd xs (j : Int) = (b.toNat : Int)) :
    impl_ReadMac.l1 (k + 1) P m n i xs len (j : Int) = if hexv b < 0 then some (0, 6) else impl_ReadMac.l1 k P (m * 16 + hexv b) n i xs len ((j + 1 : Nat) : Int) := by
  obtain ⟨t, e1, e2, e3⟩ := hex_idx b
  rw [impl_ReadMac.l1, if_pos hj, if_pos (by omega), if_pos (by omega), hb, e1]
  simp only [Option.bind_some]
  by_cases h1 : t < 0
  · rw [if_pos h1] at e2
    rw [if_pos h1, ← e2, if_pos (by decide)]
  · rw [if_neg h1] at e2
    rw [if_neg h1, wr64 (a := m * 16) (by omega), wr64 (a := (j : Int) + 1) (by omega)]
    by_cases h2 : t > 15
    · rw [if_pos h2] at e2
      rw [if_pos h2, ← e2, if_neg (by omega), wr64 (a := t - 6) (by omega), or_4 hm (by omega)]
      rfl
    · rw [if_neg h2] at e2
      rw [if_neg h2, ← e2, if_neg (by omega), or_4 hm (by omega)]
      rfl
theorem two_lt {m x y X : Int} (h0 : 0 ≤ m) (h1 : m < X) (hx : 0 ≤ x ∧ x ≤ 15) (hy : 0 ≤ y ∧ y ≤ 15) : 0 ≤ (m * 16 + x) * 16 + y ∧ (m * 16 + x) * 16 + y < X * 256 := by omega
theorem imac_pair {k : Nat} {P : List ByteArray} {m n i : Int} {a b : UInt8} (hm : 0 ≤ m ∧ m < 1099511627776) :
    impl_ReadMac.l1 (k + 3) P m n i (bytesOf (BA [a, b])) 2 0 = if hexv a < 0 then some (0, 6) else if hexv b < 0 then some (0, 6) else impl_ReadMac.l0 k P (two a b m) n (wrap64 (i + 1)) := by
  have ra : rd (bytesOf (BA [a, b])) ((0 : Nat) : Int) = (a.toNat : Int) := by unfold bytesOf; rw [BA_data]; rfl
  have rb : rd (bytesOf (BA [a, b])) ((1 : Nat) : Int) = (b.toNat : Int) := by unfold bytesOf; rw [BA_data]; rfl
  have hl : (bytesOf (BA [a, b])).length = 2 := by unfold bytesOf; rw [BA_data]; rfl
  have hxa := hexv_in a
  have e1 := imac_1 (k := k + 2) (P := P) (m := m) (n := n) (i := i) (xs := bytesOf (BA [a, b])) (j := 0) (b := a) (len := 2) (by omega) (by omega) (by omega) (by omega) ra
  rw [show ((0 : Nat) : Int) = 0 from rfl] at e1
  rw [show k + 3 = k + 2 + 1 from rfl, e1]
  by_cases h1 : hexv a < 0
  · rw [if_pos h1, if_pos h1]
  · have e2 := imac_1 (k := k + 1) (P := P) (m := m * 16 + hexv a) (n := n) (i := i) (xs := bytesOf (BA [a, b])) (j := 1) (b := b) (len := 2) (by omega) (by omega) (by omega) (by omega) rb
    rw [if_neg h1, if_neg h1, show k + 2 = k + 1 + 1 from rfl, show (0 + 1 : Nat) = 1 from rfl, e2]
    by_cases h2 : hexv b < 0
    · rw [if_pos h2, if_pos h2]
    · rw [if_neg h2, if_neg h2, impl_ReadMac.l1, if_neg (by omega)]
      rfl
theorem imac_l (ps : List (List UInt8)) (hps : ps.length = 6) (d : Nat) : ∀ (k i : Nat) (m : Int), i + d = 6 → 4 * d + 2 < k → 0 ≤ m → m < 256 ^ i → impl_ReadMac.l0 k (ps.map BA) m 6 (i : Int) = some (macQ (ps.drop i) m) := by
  have hpl : ((ps.map BA).length : Int) = 6 := by rw [List.length_map, hps]; rfl
  induction d with
  | zero =>
    intro k i m hi hk h0 h1
    obtain ⟨k, rfl⟩ : ∃ m, k = m + 1 := ⟨k - 1, by omega⟩
    rw [impl_ReadMac.l0, if_neg (by omega), show ps.drop i = [] from List.drop_eq_nil_of_le (by omega), macQ]
  | succ d ih =>
    intro k i m hi hk h0 h1'
    obtain ⟨k, rfl⟩ : ∃ m, k = m + 1 + 1 + 1 + 1 := ⟨k - 4, by omega⟩
    have hlt : i < ps.length := by omega
    have hp : m < 1099511627776 := by
      rcases (show i = 0 ∨ i = 1 ∨ i = 2 ∨ i = 3 ∨ i = 4 ∨ i = 5 by omega) with rfl | rfl | rfl | rfl | rfl | rfl <;> omega
    have hps1 : (256 : Int) ^ (i + 1) = 256 ^ i * 256 := Int.pow_succ ..
    rw [impl_ReadMac.l0, if_pos (by omega), if_pos (by omega), if_pos (by omega), rd_BA hlt, BA_size, List.drop_eq_getElem_cons hlt]
    have hih := ih k (i + 1)
    have hw : wrap64 ((i : Int) + 1) = ((i + 1 : Nat) : Int) := by rw [wr64 (by omega)]; omega
    generalize ps[i] = p at *
    match p with
    | [a, b] =>
      have hl : (bytesOf (BA [a, b])).length = 2 := by unfold bytesOf; rw [BA_data]; rfl
      have hxa := hexv_in a
      have hxb := hexv_in b
      rw [if_pos (by rfl), if_pos (by simp)]
      rw [Option.bind_some, hl]
      rw [macQ, show ((2 : Nat) : Int) = 2 from rfl, imac_pair ⟨h0, hp⟩]
      by_cases h1 : hexv a < 0
      · rw [if_pos h1, if_pos h1]
      · by_cases h2 : hexv b < 0
        · rw [if_neg h1, if_neg h1, if_pos h2, if_pos h2]
        · have h4 := two_lt h0 h1' (x := hexv a) (y := hexv b) (by clear hih; omega) (by clear hih; omega)
          rw [if_neg h1, if_neg h1, if_neg h2, if_neg h2, hw]
          exact hih _ (by omega) (by omega) h4.1 (by rw [hps1]; exact h4.2)
    | [] => rw [if_neg (by decide), macQ]; simp
    | [a] => rw [if_neg (by simp), macQ]; simp
    | a :: b :: c :: t => rw [if_neg (by simp; omega), macQ_long]
theorem macP_len (g : Nat) : ∀ (L : List UInt8) (m : Int), L.length ≠ 3 * g + 2 → macP g L m = (0, 6) := by
  induction g with
  | zero =>
    intro L m h
    match L with
    | [] => rfl
    | [a] => rfl
    | [a, b] => exact absurd rfl h
    | a :: b :: c :: r => simp [macP]
  | succ g ih =>
    intro L m h
    match L with
    | [] => rfl
    | [a] => rfl
    | [a, b] => simp [macP]
    | a :: b :: c :: r =>
      rw [macP, ih r _ (by simp only [List.length_cons] at h; omega)]
      simp

/-! ### showmac -/
open Go.Proofs.YtnnplkhjmdbmbaaDoor.Hex (dg hexL) in
def twoL (n : Nat) : List UInt8 := [dg (n / 16), dg (n % 16)]
def macL (a : Int) : List UInt8 := twoL (a / 1099511627776 % 256).toNat ++ [58] ++ twoL (a / 4294967296 % 256).toNat ++ [58] ++ twoL (a / 16777216 % 256).toNat ++ [58] ++ twoL (a / 65536 % 256).toNat ++ [58] ++ twoL (a / 256 % 256).toNat ++ [58] ++ twoL (a % 256).toNat
theorem isMac_f (a : Int) : impl_isMac.f a = some (decide (0 ≤ a ∧ a ≤ 281474976710655)) := by
  unfold impl_isMac.f
  by_cases h1 : a ≥ 0
  · rw [if_pos h1]; congr 1; rw [decide_eq_decide]; omega
  · rw [if_neg h1]; congr 1; rw [eq_comm, decide_eq_false_iff_not]; omega
theorem imac_step {k : Nat} {a i : Int} {n : Nat} {l : List ByteArray} (hi : 0 ≤ i ∧ i ≤ 64) (hl : l.length ≤ 100) (hn : n < 256) (e : Go.bits .and .i64 (shr .i64 a i) 255 = (n : Int)) : impl_ShowMac.l0 (k + 1) a l i = impl_ShowMac.l0 k a (l ++ [BA (twoL n)]) (i - 8) := by
  have hf : strconv_FormatInt.f (n : Int) 16 = some (BA (Go.Proofs.YtnnplkhjmdbmbaaDoor.Hex.hexL n)) := by
    unfold strconv_FormatInt.f
    rw [if_neg (by omega), if_pos (by omega), Int.toNat_natCast]
    rfl
  rw [impl_ShowMac.l0, if_pos hi.1, if_pos hi.1, e, hf, wr64 (by omega)]
  simp only [Option.bind_some]
  rw [BA_size]
  unfold Go.Proofs.YtnnplkhjmdbmbaaDoor.Hex.hexL twoL
  by_cases h : n < 16
  · rw [if_pos h, if_pos (by simp), if_pos (by simp), if_pos (by omega), show n / 16 = 0 from by omega, show n % 16 = n from by omega, show (⟨#[48]⟩ : ByteArray) = BA [48] from rfl, BA_app]
    rfl
  · rw [if_neg h, if_neg (by simp), if_pos (by omega)]
theorem dig_ex (i : Nat) (h : i < 16) : (⟨#[48, 49, 50, 51, 52, 53, 54, 55, 56, 57, 97, 98, 99, 100, 101, 102]⟩ : ByteArray).extract i (i + 1) = BA [Go.Proofs.YtnnplkhjmdbmbaaDoor.Hex.dg i] := by
  rcases (show i = 0 ∨ i = 1 ∨ i = 2 ∨ i = 3 ∨ i = 4 ∨ i = 5 ∨ i = 6 ∨ i = 7 ∨ i = 8 ∨ i = 9 ∨ i = 10 ∨ i = 11 ∨ i = 12 ∨ i = 13 ∨ i = 14 ∨ i = 15 by omega) with rfl | rfl | rfl | rfl | rfl | rfl | rfl | rfl | rfl | rfl | rfl | rfl | rfl | rfl | rfl | rfl <;> decide +kernel
theorem bytev {a : Int} {j : Int} {m : Int} (hm : 0 < m) (e : shr .i64 a j = a / m) : Go.bits .and .i64 (shr .i64 a j) 255 = ((a / m % 256).toNat : Int) ∧ (a / m % 256).toNat < 256 := by
  rw [e, and_255]
  omega
theorem showM_impl {a : Int} (h : 0 ≤ a ∧ a ≤ 281474976710655) {k : Nat} (hk : 10 ≤ k) : impl_ShowMac.f k a = some (BA (macL a), 0) := by
  unfold impl_ShowMac.f
  rw [isMac_f, decide_eq_true h]
  simp only [Option.bind_some, if_true]
  obtain ⟨k, rfl⟩ : ∃ m, k = m + 1 + 1 + 1 + 1 + 1 + 1 + 1 := ⟨k - 7, by omega⟩
  have b5 := bytev (a := a) (j := 40) (m := 1099511627776) (by decide) rfl
  have b4 := bytev (a := a) (j := 32) (m := 4294967296) (by decide) rfl
  have b3 := bytev (a := a) (j := 24) (m := 16777216) (by decide) rfl
  have b2 := bytev (a := a) (j := 16) (m := 65536) (by decide) rfl
  have b1 := bytev (a := a) (j := 8) (m := 256) (by decide) rfl
  have b0 := bytev (a := a) (j := 0) (m := 1) (by decide) rfl
  rw [imac_step (by omega) (by simp) b5.2 b5.1, show (40 : Int) - 8 = 32 from rfl, imac_step (by omega) (by simp) b4.2 b4.1, show (32 : Int) - 8 = 24 from rfl, imac_step (by omega) (by simp) b3.2 b3.1, show (24 : Int) - 8 = 16 from rfl, imac_step (by omega) (by simp) b2.2 b2.1, show (16 : Int) - 8 = 8 from rfl, imac_step (by omega) (by simp) b1.2 b1.1, show (8 : Int) - 8 = 0 from rfl, imac_step (by omega) (by simp) b0.2 b0.1, impl_ShowMac.l0, if_neg (by omega)]
  rw [Int.ediv_one]
  unfold strings_Join.f
  have ej : ∀ p q r s t u : List UInt8, Lib.join (([] ++ [BA p] ++ [BA q] ++ [BA r] ++ [BA s] ++ [BA t] ++ [BA u]).map fun x : ByteArray => x.data.toList) (⟨#[58]⟩ : ByteArray).data.toList = p ++ [58] ++ q ++ [58] ++ r ++ [58] ++ s ++ [58] ++ t ++ [58] ++ u := by
    intro p q r s t u
    simp only [List.nil_append, List.cons_append, List.map_cons, List.map_nil, BA_data]
    unfold Lib.join
    simp [List.intercalate, List.intersperse]
  rw [ej, if_pos ⟨by simp, by unfold twoL; simp⟩]
  rfl
theorem showM_impl_none {a : Int} (h : ¬ (0 ≤ a ∧ a ≤ 281474976710655)) (k : Nat) : impl_ShowMac.f k a = some (⟨#[]⟩, 1) := by
  unfold impl_ShowMac.f
  rw [isMac_f, decide_eq_false h]
  rfl

/-! ### l01draw2 -/
theorem l01b_l (l : List Int) (hn : l.length ≤ 2097152) (m : List Int) (p : Int) (d : Nat) : ∀ (k i : Nat) (st : Int), i + d = l.length → d < k → ∃ st', spec_l01Begin.l0 k l (i : Int) m p st = some (p, st') := by
  induction d with
  | zero =>
    intro k i st hi hk
    obtain ⟨k, rfl⟩ : ∃ m, k = m + 1 := ⟨k - 1, by omega⟩
    simp only [spec_l01Begin.l0]
    rw [if_neg (by omega)]
    exact ⟨st, rfl⟩
  | succ d ih =>
    intro k i st hi hk
    obtain ⟨k, rfl⟩ : ∃ m, k = m + 1 := ⟨k - 1, by omega⟩
    simp only [spec_l01Begin.l0]
    rw [if_pos (by omega), if_pos (by omega), wr_succ (n := l.length) (by omega) (by omega)]
    exact ih k (i + 1) _ (by omega) (by omega)
theorem l01b_f {l : List Int} (hn : l.length ≤ 2097152) {k : Nat} (hk : l.length < k) : ∃ st, spec_l01Begin.f k l = some (0, st) := by
  unfold spec_l01Begin.f
  exact l01b_l l hn l 0 l.length k 0 _ (by omega) hk
theorem l01n_f {l : List Int} (hl : l.length ≤ 2097152) {p : Int} (st : Int) {n : Int} (hp : 0 ≤ p) (hn : 0 < n) (h2 : n ≤ 4611686018427387904) : ∃ r p' st', spec_l01Next.f l p st n = some (r, p', st') ∧ 0 ≤ r ∧ r < n ∧ 0 ≤ p' := by
  unfold spec_l01Next.f
  rw [if_neg (show ¬ n ≤ 0 by omega), u64_id (y := n) (by omega)]
  by_cases h : p < (l.length : Int)
  · rw [if_pos h, if_pos hp, if_neg (show ¬ n = 0 by omega)]
    have := mod_in (xor_nn (IntKind.u64.wrap (IntKind.u64.wrap (st * 6364136223846793005) + 1442695040888963407) / 8589934592) (IntKind.u64.wrap (rd l p))) hn h2
    exact ⟨_, _, _, rfl, this.1, this.2, by rw [wr64 (by omega)]; omega⟩
  · rw [if_neg h, if_neg (show ¬ n = 0 by omega)]
    have hq : 0 ≤ IntKind.u64.wrap (IntKind.u64.wrap (st * 6364136223846793005) + 1442695040888963407) / 8589934592 := by
      have := u64_nn (IntKind.u64.wrap (st * 6364136223846793005) + 1442695040888963407)
      omega
    have := mod_in hq hn h2
    exact ⟨_, _, _, rfl, this.1, this.2, hp⟩

/-! ### drawaddr -/
theorem host_f {l : List Int} (hl : l.length ≤ 2097152) {p : Int} (st : Int) (hp : 0 ≤ p) : ∃ r p' st', spec_l02Host.f l p st = some (r, p', st') ∧ (0 ≤ r ∧ r ≤ 4294967295) ∧ 0 ≤ p' := by
  unfold spec_l02Host.f
  obtain ⟨x, p1, s1, e, h0, h1, hp1⟩ := l01n_f hl st (n := 2) hp (by omega) (by omega)
  rw [e]
  simp only [Option.bind_some]
  obtain ⟨y, p2, s2, e, h2, h3, hp2⟩ := l01n_f hl s1 (n := 6) hp1 (by omega) (by omega)
  rw [e]
  refine ⟨_, _, _, rfl, ?_, hp2⟩
  rw [wr64 (a := x * 256) (by omega), wr64 (a := 167772160 + x * 256) (by omega), wr64 (a := 167772160 + x * 256 + 1) (by omega), wr64 (by omega)]
  omega
theorem pre_f {l : List Int} (hl : l.length ≤ 2097152) {p : Int} (st : Int) (hp : 0 ≤ p) {k : Nat} (hk : 40 ≤ k) : ∃ a b p' st', spec_l02Prefix.f k l p st = some (a, b, p', st') ∧ 0 ≤ p' := by
  unfold spec_l02Prefix.f
  obtain ⟨r, p1, s1, e, hr, hp1⟩ := host_f hl st hp
  rw [e]
  simp only [Option.bind_some]
  obtain ⟨x, p2, s2, e, h0, h1, hp2⟩ := l01n_f hl s1 (n := 33) hp1 (by omega) (by omega)
  rw [e]
  simp only [Option.bind_some]
  obtain ⟨y, p3, s3, e, _, _, hp3⟩ := l01n_f hl s2 (n := 2) hp2 (by omega) (by omega)
  rw [e]
  simp only [Option.bind_some]
  split
  · obtain ⟨z, p4, s4, e, h2, h3, hp4⟩ := l01n_f hl s3 (n := 11) hp3 (by omega) (by omega)
    rw [e]
    simp only [Option.bind_some]
    have := sz_pos (22 + z)
    rw [wr64 (a := 22 + z) (by omega), size_f (b := 22 + z) (by omega) hk]
    simp only [Option.bind_some]
    rw [if_neg (by omega)]
    exact ⟨_, _, _, _, rfl, hp4⟩
  · have := sz_pos x
    rw [size_f (b := x) (by omega) hk]
    simp only [Option.bind_some]
    rw [if_neg (by omega)]
    exact ⟨_, _, _, _, rfl, hp3⟩

/-! ### the law -/
/-! numerals -/
theorem dec_val (n : Nat) : valD 0 (Lib.decDigits n) = n := by
  induction n using Nat.strongRecOn with
  | _ n ih =>
    by_cases h : n < 10
    · rw [Lib.decDigits_one h, valD_cons, valD_nil]
      have : (UInt8.ofNat (48 + n)).toNat = 48 + n := by
        rw [UInt8.toNat_ofNat']
        omega
      omega
    · rw [Lib.decDigits, dif_neg h, valD_app, ih (n / 10) (by omega), valD_cons, valD_nil]
      have : (UInt8.ofNat (48 + n % 10)).toNat = 48 + n % 10 := by
        rw [UInt8.toNat_ofNat']
        omega
      omega
theorem dec_digits (n : Nat) : digits (Lib.decDigits n) := by
  induction n using Nat.strongRecOn with
  | _ n ih =>
    have one : ∀ m, m < 10 → digit (UInt8.ofNat (48 + m)) := by
      intro m hm
      unfold digit
      rw [UInt8.toNat_ofNat']
      omega
    by_cases h : n < 10
    · rw [Lib.decDigits_one h]
      intro b hb
      rw [List.mem_singleton.1 hb]
      exact one n h
    · rw [Lib.decDigits, dif_neg h]
      intro b hb
      rcases List.mem_append.1 hb with hb | hb
      · exact ih (n / 10) (by omega) b hb
      · rw [List.mem_singleton.1 hb]
        exact one _ (by omega)
theorem dec_len3 {n : Nat} (h : n < 1000) : 1 ≤ (Lib.decDigits n).length ∧ (Lib.decDigits n).length ≤ 3 ∧ (1 < (Lib.decDigits n).length → 1 ≤ n) := by
  by_cases h1 : n < 10
  · rw [Lib.decDigits_one h1]
    simp
  · by_cases h2 : n / 10 < 10
    · rw [Lib.decDigits, dif_neg h1, Lib.decDigits_one h2]
      simp
      omega
    · rw [Lib.decDigits, dif_neg h1, Lib.decDigits, dif_neg h2, Lib.decDigits_one (by omega)]
      simp
      omega
theorem dec_ok3 {n : Nat} (h : n < 1000) : okL 3 (Lib.decDigits n) := by
  obtain ⟨h1, h2, h3⟩ := dec_len3 h
  refine ⟨⟨fun e => ?_, h2⟩, dec_digits n, fun hl => head_dec n (h3 hl)⟩
  rw [e] at h1
  simp at h1
/-! pieces -/
def jn (c : UInt8) : List (List UInt8) → List UInt8
  | [] => []
  | p :: ps => c :: (p ++ jn c ps)
theorem cut_join (c : UInt8) (L : List UInt8) : ∀ cur, ∃ p ps, cutA c cur L = p :: ps ∧ cur ++ L = p ++ jn c ps := by
  induction L with
  | nil => intro cur; exact ⟨cur, [], rfl, by simp [jn]⟩
  | cons b L ih =>
    intro cur
    rw [cutA]
    by_cases h : b = c
    · rw [if_pos h]
      obtain ⟨p, ps, e1, e2⟩ := ih []
      refine ⟨cur, cutA c [] L, rfl, ?_⟩
      rw [e1, jn, ← e2, h, List.nil_append]
    · rw [if_neg h]
      obtain ⟨p, ps, e1, e2⟩ := ih (cur ++ [b])
      refine ⟨p, ps, e1, ?_⟩
      rw [← e2]
      simp
theorem cut_no (c : UInt8) (d : List UInt8) : ∀ (cur rest : List UInt8), (∀ b ∈ d, b ≠ c) → cutA c cur (d ++ rest) = cutA c (cur ++ d) rest := by
  induction d with
  | nil => intro cur rest _; simp
  | cons b d ih =>
    intro cur rest h
    rw [List.cons_append, cutA, if_neg (h b (List.mem_cons_self ..)), ih _ _ (fun x hx => h x (List.mem_cons_of_mem _ hx))]
    simp
theorem cut_at (c : UInt8) (cur rest : List UInt8) : cutA c cur (c :: rest) = cur :: cutA c [] rest := by
  rw [cutA, if_pos rfl]
theorem dec_no {c : UInt8} (hc : c.toNat < 48) (n : Nat) : ∀ b ∈ Lib.decDigits n, b ≠ c := by
  intro b hb e
  have := dec_digits n b hb
  unfold digit at this
  rw [e] at this
  omega
/-! addresses -/
theorem addr_step {ps : List (List UInt8)} (hps : ps.length = 4) {k i : Nat} {a : Int} (hlt : i < ps.length) (hk : 40 < k) (h0 : 0 ≤ a) (h1 : a < 16777216) :
    impl_ReadAddr.l0 (k + 1) (ps.map BA) a 4 (i : Int) = if okL 3 ps[i] ∧ valD 0 ps[i] ≤ 255 then impl_ReadAddr.l0 k (ps.map BA) (a * 256 + (valD 0 ps[i] : Int)) 4 ((i + 1 : Nat) : Int) else some (0, 6) := by
  have hpl : ((ps.map BA).length : Int) = 4 := by rw [List.length_map, hps]; rfl
  have hw : wrap64 ((i : Int) + 1) = ((i + 1 : Nat) : Int) := by rw [wr64 (by omega)]; omega
  have e1 := idec_f (BA ps[i]) (d := 3) (k := k) (by decide) (by omega)
  rw [show ((3 : Nat) : Int) = 3 from rfl, BA_data] at e1
  rw [impl_ReadAddr.l0, if_pos (by omega), if_pos (by omega), if_pos (by omega), rd_BA hlt, e1, hw]
  simp only [Option.bind_some]
  by_cases hok : okL 3 ps[i]
  · simp only [hok, if_true, true_and]
    by_cases hb : valD 0 ps[i] ≤ 255
    · rw [if_neg (by omega), if_pos hb, wr64 (a := a * 256) (by omega), or_8 (by omega) (by omega)]
    · rw [if_pos (by omega), if_neg hb]
  · simp only [hok, if_false, Bool.false_eq_true, false_and]
def ok4 (p : List UInt8) : Prop := okL 3 p ∧ valD 0 p ≤ 255
instance (p : List UInt8) : Decidable (ok4 p) := by unfold ok4; exact inferInstance
theorem addr_four (p0 p1 p2 p3 : List UInt8) {k : Nat} (hk : 50 < k) : impl_ReadAddr.l0 k ([p0, p1, p2, p3].map BA) 0 4 0 = if ok4 p0 ∧ ok4 p1 ∧ ok4 p2 ∧ ok4 p3 then some ((((valD 0 p0 : Int) * 256 + (valD 0 p1 : Int)) * 256 + (valD 0 p2 : Int)) * 256 + (valD 0 p3 : Int), 0) else some (0, 6) := by
  obtain ⟨k, rfl⟩ : ∃ m, k = m + 1 + 1 + 1 + 1 + 1 := ⟨k - 5, by omega⟩
  have s := fun (k i : Nat) (a : Int) (hlt : i < [p0, p1, p2, p3].length) (hk : 40 < k) (h0 : 0 ≤ a) (h1 : a < 16777216) => addr_step (ps := [p0, p1, p2, p3]) rfl (k := k) (i := i) (a := a) hlt hk h0 h1
  have s0 := s (k + 1 + 1 + 1 + 1) 0 0 (by simp) (by omega) (by omega) (by omega)
  rw [show ((0 : Nat) : Int) = 0 from rfl] at s0
  rw [s0]
  simp only [List.getElem_cons_zero, Int.zero_mul, Int.zero_add, Nat.zero_add]
  by_cases h0 : ok4 p0
  · have h0' := h0
    unfold ok4 at h0'
    rw [if_pos h0', s (k + 1 + 1 + 1) 1 _ (by simp) (by omega) (by omega) (by omega)]
    simp only [List.getElem_cons_zero, List.getElem_cons_succ, Nat.reduceAdd]
    by_cases h1 : ok4 p1
    · have h1' := h1
      unfold ok4 at h1'
      rw [if_pos h1', s (k + 1 + 1) 2 _ (by simp) (by omega) (by omega) (by omega)]
      simp only [List.getElem_cons_zero, List.getElem_cons_succ, Nat.reduceAdd]
      by_cases h2 : ok4 p2
      · have h2' := h2
        unfold ok4 at h2'
        rw [if_pos h2', s (k + 1) 3 _ (by simp) (by omega) (by omega) (by omega)]
        simp only [List.getElem_cons_zero, List.getElem_cons_succ, Nat.reduceAdd]
        by_cases h3 : ok4 p3
        · have h3' := h3
          unfold ok4 at h3'
          rw [if_pos h3', if_pos ⟨h0, h1, h2, h3⟩, impl_ReadAddr.l0, if_neg (by decide)]
        · have h3' := h3
          unfold ok4 at h3'
          rw [if_neg h3', if_neg (fun h => h3 h.2.2.2)]
      · have h2' := h2
        unfold ok4 at h2'
        rw [if_neg h2', if_neg (fun h => h2 h.2.2.1)]
    · have h1' := h1
      unfold ok4 at h1'
      rw [if_neg h1', if_neg (fun h => h1 h.2.1)]
  · have h0' := h0
    unfold ok4 at h0'
    rw [if_neg h0', if_neg (fun h => h0 h.1)]
theorem four {α : Type} {l : List α} (h : l.length = 4) : ∃ a b c d, l = [a, b, c, d] := by
  match l, h with
  | [a, b, c, d], _ => exact ⟨a, b, c, d, rfl⟩
theorem readA_show {a : Int} (h : 0 ≤ a ∧ a ≤ 4294967295) {k : Nat} (hk : 12000000 < k) : impl_ReadAddr.f k (BA (addrL a)) = some (a, 0) := by
  have hl := addrL_len h
  unfold impl_ReadAddr.f
  have e : cutA 46 [] (addrL a) = [Lib.decDigits (a / 16777216).toNat, Lib.decDigits (a / 65536 % 256).toNat, Lib.decDigits (a / 256 % 256).toNat, Lib.decDigits (a % 256).toNat] := by
    unfold addrL
    have no := dec_no (c := 46) (by decide)
    simp only [List.append_assoc, List.singleton_append, List.cons_append, List.nil_append]
    rw [cut_no _ _ _ _ (no _), List.nil_append, cut_at, cut_no _ _ _ _ (no _), List.nil_append, cut_at, cut_no _ _ _ _ (no _), List.nil_append, cut_at]
    have := cut_no 46 (Lib.decDigits (a % 256).toNat) [] [] (no _)
    rw [List.append_nil, List.nil_append] at this
    rw [this, cutA]
  rw [show (⟨#[46]⟩ : ByteArray) = BA [46] from rfl, split_f (by rw [BA_size]; omega), BA_data, e, Option.bind_some, List.length_map]
  refine (if_pos (by rfl)).trans ?_
  have d : ∀ n : Nat, n ≤ 255 → ok4 (Lib.decDigits n) := fun n hn => ⟨dec_ok3 (by omega), by rw [dec_val]; exact hn⟩
  have := addr_four (Lib.decDigits (a / 16777216).toNat) (Lib.decDigits (a / 65536 % 256).toNat) (Lib.decDigits (a / 256 % 256).toNat) (Lib.decDigits (a % 256).toNat) (k := k) (by omega)
  rw [if_pos ⟨d _ (by omega), d _ (by omega), d _ (by omega), d _ (by omega)⟩] at this
  refine (show _ = _ from this).trans ?_
  rw [dec_val, dec_val, dec_val, dec_val]
  congr 2
  omega
theorem readA_text {s : ByteArray} (hs : s.size ≤ 1048576) {k : Nat} (hk : 12000000 < k) {a : Int} (e : impl_ReadAddr.f k s = some (a, 0)) : (0 ≤ a ∧ a ≤ 4294967295) ∧ s.data.toList = addrL a := by
  unfold impl_ReadAddr.f at e
  rw [show (⟨#[46]⟩ : ByteArray) = BA [46] from rfl, split_f hs, Option.bind_some, List.length_map] at e
  by_cases h4 : (cutA 46 [] s.data.toList).length = 4
  · rw [h4, if_pos (show ((4 : Nat) : Int) = 4 from rfl)] at e
    obtain ⟨p0, p1, p2, p3, e4⟩ := four h4
    obtain ⟨q, qs, f1, f2⟩ := cut_join 46 s.data.toList []
    rw [e4] at e f1
    obtain ⟨rfl, rfl⟩ := List.cons.inj f1
    have e' : impl_ReadAddr.l0 k ([p0, p1, p2, p3].map BA) 0 4 0 = some (a, 0) := e
    rw [addr_four p0 p1 p2 p3 (by omega)] at e'
    by_cases c : ok4 p0 ∧ ok4 p1 ∧ ok4 p2 ∧ ok4 p3
    · rw [if_pos c] at e'
      have ea := (Prod.mk.inj (Option.some.inj e')).1
      obtain ⟨c0, c1, c2, c3⟩ := c
      have b0 := dec_back p0 c0.1.2.1 c0.1.1.1 c0.1.2.2
      have b1 := dec_back p1 c1.1.2.1 c1.1.1.1 c1.1.2.2
      have b2 := dec_back p2 c2.1.2.1 c2.1.1.1 c2.1.2.2
      have b3 := dec_back p3 c3.1.2.1 c3.1.1.1 c3.1.2.2
      have l0 := c0.2
      have l1 := c1.2
      have l2 := c2.2
      have l3 := c3.2
      refine ⟨by omega, ?_⟩
      rw [List.nil_append] at f2
      rw [f2]
      unfold addrL
      rw [show (a / 16777216).toNat = valD 0 p0 from by omega, show (a / 65536 % 256).toNat = valD 0 p1 from by omega, show (a / 256 % 256).toNat = valD 0 p2 from by omega, show (a % 256).toNat = valD 0 p3 from by omega, b0, b1, b2, b3]
      simp [jn]
    · rw [if_neg c] at e'
      cases e'
  · rw [if_neg (by omega)] at e
    cases e
/-! prefixes -/
theorem readP_text {s : ByteArray} (hs : s.size ≤ 1048576) {k : Nat} (hk : 12000000 < k) {a b : Int} (e : impl_ReadPrefix.f k s = some (a, b, 0)) : okP a b ∧ s = BA (prefixL a b) := by
  have hsz := Lib.size_eq s
  unfold impl_ReadPrefix.f at e
  rw [show (⟨#[47]⟩ : ByteArray) = BA [47] from rfl, cut_BA s 47 hs, Option.bind_some] at e
  have fin : ∀ x y : List UInt8, x.length ≤ 1048576 → ((impl_ReadAddr.f k (BA x)).bind fun bt254 => ((impl_decimal.f k (BA y) 2).bind fun bt256 => (if bt254.2 = 0 then (if bt256.2 = true then ((impl_okPrefix.f bt254.1 bt256.1).bind fun t259 => (if t259 = true then (some (bt254.1, bt256.1, (0 : Int))) else (some (0, 0, 6)))) else (some (0, 0, 6))) else (some (0, 0, 6))))) = some (a, b, 0) → okP a b ∧ x ++ [47] ++ y = prefixL a b := by
    intro x y hx e
    obtain ⟨q, e1, _, q0, q1⟩ := readA_f (BA x) (by rw [BA_size]; exact hx) hk
    have e2 := idec_f (BA y) (d := 2) (k := k) (by decide) (by omega)
    rw [show ((2 : Nat) : Int) = 2 from rfl, BA_data] at e2
    rw [e1, e2] at e
    simp only [Option.bind_some] at e
    obtain ⟨qa, qc⟩ := q
    dsimp only at e q0 q1
    by_cases h0 : qc = 0
    · subst h0
      rw [if_pos rfl] at e
      by_cases hy : okL 2 y
      · simp only [hy, if_true] at e
        rw [implOK_f, Option.bind_some] at e
        by_cases ho : okP qa (valD 0 y : Int)
        · rw [decide_eq_true ho, if_pos rfl] at e
          have e' := Option.some.inj e
          have ea := (Prod.mk.inj e').1
          have eb := (Prod.mk.inj (Prod.mk.inj e').2).1
          subst ea
          subst eb
          refine ⟨ho, ?_⟩
          have ht := (readA_text (by rw [BA_size]; exact hx) hk e1).2
          rw [BA_data] at ht
          unfold prefixL
          rw [Int.toNat_natCast, dec_back y hy.2.1 hy.1.1 hy.2.2, ht]
        · rw [decide_eq_false ho, if_neg (by decide)] at e
          cases e
      · simp only [hy, if_false, Bool.false_eq_true] at e
        cases e
    · rw [if_neg h0] at e
      cases e
  rcases index_cut 47 s.data.toList with ⟨h1, h2⟩ | ⟨i, h1, h2, h3⟩
  · have ec : Lib.cut s.data.toList [47] = (s.data.toList, [], false) := by
      unfold Lib.cut
      rw [h1, if_neg (by decide)]
    rw [ec] at e
    exfalso
    obtain ⟨q, e1, _⟩ := readA_f (BA s.data.toList) (by rw [BA_size]; omega) hk
    have e2 := idec_f (BA []) (d := 2) (k := k) (by decide) (by omega)
    rw [show ((2 : Nat) : Int) = 2 from rfl, BA_data, if_neg (fun h : okL 2 [] => h.1.1 rfl)] at e2
    rw [e1, e2] at e
    simp only [Option.bind_some, Bool.false_eq_true, if_false, ite_self] at e
    cases e
  · have ec : Lib.cut s.data.toList [47] = (s.data.toList.take i, s.data.toList.drop (i + 1), true) := by
      unfold Lib.cut
      rw [h1, if_pos (by omega)]
      rfl
    rw [ec] at e
    obtain ⟨ho, hx⟩ := fin (s.data.toList.take i) (s.data.toList.drop (i + 1)) (by rw [List.length_take]; omega) e
    refine ⟨ho, ?_⟩
    obtain ⟨p, ps, f1, f2⟩ := cut_join 47 s.data.toList []
    obtain ⟨p', ps', g1, g2⟩ := cut_join 47 (s.data.toList.drop (i + 1)) []
    rw [h3, g1, List.nil_append] at f1
    obtain ⟨rfl, rfl⟩ := List.cons.inj f1
    rw [List.nil_append] at f2 g2
    have el : s.data.toList = s.data.toList.take i ++ [47] ++ s.data.toList.drop (i + 1) := f2.trans (by rw [jn, ← g2]; simp)
    rw [← hx]
    exact (BA_of s).symm.trans (congrArg BA el)
/-! hardware addresses -/
theorem readM_i (s : ByteArray) (hs : s.size ≤ 1048576) {k : Nat} (hk : 100 < k) : impl_ReadMac.f k s = some (macP 5 s.data.toList 0) := by
  have hsz := Lib.size_eq s
  unfold impl_ReadMac.f
  rw [show (⟨#[58]⟩ : ByteArray) = BA [58] from rfl, split_f hs, ← macPQ 5 s.data.toList 0]
  simp only [Option.bind_some]
  rw [List.length_map]
  by_cases h : (cutA 58 [] s.data.toList).length = 6
  · rw [h, if_pos (show ((6 : Nat) : Int) = 6 from rfl), if_pos (by decide), show ((6 : Nat) : Int) = 6 from rfl]
    have := imac_l _ h 6 k 0 0 (by omega) (by omega) (by decide) (by decide)
    rw [List.drop_zero] at this
    exact this
  · rw [if_neg (by omega), if_neg (by omega)]
def upv (b : Int) : Int := if b ≥ 97 then (if b ≤ 102 then (b - 32) % 256 else b) else b
theorem mid_rd (pre suf : List Int) (x : Int) : rd (pre ++ x :: suf) (pre.length : Int) = x := by
  unfold rd
  rw [Int.toNat_natCast, List.getD_eq_getElem?_getD, List.getElem?_append_right (Nat.le_refl _), Nat.sub_self]
  rfl
theorem up_l (suf : List Int) : ∀ (k : Nat) (pre : List Int), suf.length < k → pre.length + suf.length ≤ 1048576 → laws_FnAddrText.l0 k (pre ++ suf) (pre.length : Int) = some (pre ++ suf.map upv) := by
  induction suf with
  | nil =>
    intro k pre hk hp
    obtain ⟨k, rfl⟩ : ∃ z, k = z + 1 := ⟨k - 1, by simp at hk; omega⟩
    rw [laws_FnAddrText.l0, if_neg (by simp)]
    rfl
  | cons x suf ih =>
    intro k pre hk hp
    simp only [List.length_cons] at hk hp
    obtain ⟨k, rfl⟩ : ∃ z, k = z + 1 := ⟨k - 1, by omega⟩
    have hl : ((pre ++ x :: suf).length : Int) = (pre.length : Int) + (suf.length : Int) + 1 := by simp; omega
    have hs : ∀ y : Int, (pre ++ x :: suf).set (pre.length : Int).toNat y = (pre ++ [y]) ++ suf := by
      intro y
      rw [Int.toNat_natCast, List.set_append_right _ _ (Nat.le_refl _), Nat.sub_self]
      simp
    have hn : ∀ y : Int, wrap64 ((pre.length : Int) + 1) = ((pre ++ [y]).length : Int) := by
      intro y
      rw [wr_succ (n := 1048576) (by omega) (by omega)]
      simp
    have go : ∀ y : Int, y = upv x → laws_FnAddrText.l0 k ((pre ++ [y]) ++ suf) (wrap64 ((pre.length : Int) + 1)) = some (pre ++ (x :: suf).map upv) := by
      intro y hy
      rw [hn y, ih k (pre ++ [y]) (by omega) (by simp; omega), hy]
      simp
    rw [laws_FnAddrText.l0, if_pos (by omega), if_pos (by omega), mid_rd]
    by_cases c1 : x ≥ 97
    · rw [if_pos c1]
      by_cases c2 : x ≤ 102
      · rw [if_pos c2, hs]
        exact go _ (by unfold upv; rw [if_pos c1, if_pos c2])
      · rw [if_neg c2, show pre ++ x :: suf = (pre ++ [x]) ++ suf from by simp]
        exact go _ (by unfold upv; rw [if_pos c1, if_neg c2])
    · rw [if_neg c1, show pre ++ x :: suf = (pre ++ [x]) ++ suf from by simp]
      exact go _ (by unfold upv; rw [if_neg c1])
def upB (b : UInt8) : UInt8 := UInt8.ofNat (upv (b.toNat : Int)).toNat
theorem up_text (L : List UInt8) : strOfNums ((bytesOf (BA L)).map upv) = BA (L.map upB) := by
  rw [son_BA]
  congr 1
  rw [bytesOf, BA_data, List.map_map, List.map_map]
  rfl
theorem up_58 : upB 58 = 58 := by decide
theorem up_hex : ∀ i : Fin 16, hexv (upB (Go.Proofs.YtnnplkhjmdbmbaaDoor.Hex.dg i.val)) = (i.val : Int) := by decide +kernel
theorem hex_up {n : Nat} (h : n < 16) : hexv (upB (Go.Proofs.YtnnplkhjmdbmbaaDoor.Hex.dg n)) = (n : Int) := up_hex ⟨n, h⟩
theorem two_up {n : Nat} (h : n < 256) (m : Int) : two (upB (Go.Proofs.YtnnplkhjmdbmbaaDoor.Hex.dg (n / 16))) (upB (Go.Proofs.YtnnplkhjmdbmbaaDoor.Hex.dg (n % 16))) m = m * 256 + (n : Int) := by
  unfold two
  rw [hex_up (by omega), hex_up (by omega)]
  omega
theorem macP_step {g n : Nat} (h : n < 256) (r : List UInt8) (m : Int) : macP (g + 1) (upB (Go.Proofs.YtnnplkhjmdbmbaaDoor.Hex.dg (n / 16)) :: upB (Go.Proofs.YtnnplkhjmdbmbaaDoor.Hex.dg (n % 16)) :: upB 58 :: r) m = macP g r (m * 256 + (n : Int)) := by
  have h1 := hex_up (n := n / 16) (by omega)
  have h2 := hex_up (n := n % 16) (by omega)
  rw [macP, if_neg (by rw [h1]; omega), if_neg (by rw [h2]; omega), if_pos up_58, two_up h]
theorem macP_end {n : Nat} (h : n < 256) (m : Int) : macP 0 [upB (Go.Proofs.YtnnplkhjmdbmbaaDoor.Hex.dg (n / 16)), upB (Go.Proofs.YtnnplkhjmdbmbaaDoor.Hex.dg (n % 16))] m = (m * 256 + (n : Int), 0) := by
  have h1 := hex_up (n := n / 16) (by omega)
  have h2 := hex_up (n := n % 16) (by omega)
  rw [macP, if_neg (by rw [h1]; omega), if_neg (by rw [h2]; omega), two_up h]
theorem mac_six {n5 n4 n3 n2 n1 n0 : Nat} (h5 : n5 < 256) (h4 : n4 < 256) (h3 : n3 < 256) (h2 : n2 < 256) (h1 : n1 < 256) (h0 : n0 < 256) :
    macP 5 ((twoL n5 ++ [58] ++ twoL n4 ++ [58] ++ twoL n3 ++ [58] ++ twoL n2 ++ [58] ++ twoL n1 ++ [58] ++ twoL n0).map upB) 0 = ((((((0 * 256 + (n5 : Int)) * 256 + (n4 : Int)) * 256 + (n3 : Int)) * 256 + (n2 : Int)) * 256 + (n1 : Int)) * 256 + (n0 : Int), 0) := by
  simp only [twoL, List.map_append, List.map_cons, List.map_nil, List.cons_append, List.nil_append]
  rw [macP_step h5, macP_step h4, macP_step h3, macP_step h2, macP_step h1, macP_end h0]
theorem mac_num {a n5 n4 n3 n2 n1 n0 : Int} (h : 0 ≤ a ∧ a ≤ 281474976710655) (h5 : n5 = a / 1099511627776 % 256) (h4 : n4 = a / 4294967296 % 256) (h3 : n3 = a / 16777216 % 256) (h2 : n2 = a / 65536 % 256) (h1 : n1 = a / 256 % 256) (h0 : n0 = a % 256) : (((((0 * 256 + n5) * 256 + n4) * 256 + n3) * 256 + n2) * 256 + n1) * 256 + n0 = a := by omega
theorem mac_up {a : Int} (h : 0 ≤ a ∧ a ≤ 281474976710655) : macP 5 ((macL a).map upB) 0 = (a, 0) := by
  unfold macL
  rw [mac_six (by omega) (by omega) (by omega) (by omega) (by omega) (by omega), mac_num h (by omega) (by omega) (by omega) (by omega) (by omega) (by omega)]
theorem macL_len (a : Int) : (macL a).length = 17 := by
  unfold macL twoL
  simp
/-! drawn texts -/
theorem bend_f {l : List Int} (hl : l.length ≤ 2097152) {p : Int} (st : Int) (hp : 0 ≤ p) {t : ByteArray} (ht : t.size ≤ 2000) : ∃ r p' st', spec_l02Bend.f l p st t 3 = some (r, p', st') ∧ r.size ≤ 5000 := by
  unfold spec_l02Bend.f
  obtain ⟨x, p1, s1, e, _, _, hp1⟩ := l01n_f hl st (n := 3) hp (by omega) (by omega)
  rw [e, Option.bind_some]
  by_cases c0 : x > 0
  · rw [if_pos c0]
    exact ⟨_, _, _, rfl, by omega⟩
  · rw [if_neg c0, wr64 (a := (t.size : Int) + 1) (by omega)]
    obtain ⟨y, p2, s2, e, y0, y1, hp2⟩ := l01n_f hl s1 (n := (t.size : Int) + 1) hp1 (by omega) (by omega)
    rw [e, Option.bind_some]
    obtain ⟨z, p3, s3, e, z0, z1, hp3⟩ := l01n_f hl s2 (n := 12) hp2 (by omega) (by omega)
    rw [e, Option.bind_some]
    obtain ⟨q, p4, s4, e, q0, q1, hp4⟩ := l01n_f hl s3 (n := 3) hp3 (by omega) (by omega)
    rw [e, Option.bind_some]
    dsimp only
    rw [wr64 (a := z + 1) (by omega), wr64 (a := y + 1) (by omega)]
    have hb : (⟨#[46, 58, 47, 48, 49, 50, 57, 97, 71, 32, 45, 10]⟩ : ByteArray).size = 12 := rfl
    by_cases c1 : q = 0
    · rw [if_pos c1, if_pos y0, if_pos (by omega)]
      exact ⟨_, _, _, rfl, by rw [ByteArray.size_extract]; omega⟩
    · rw [if_neg c1]
      by_cases c2 : q = 1
      · rw [if_pos c2, if_pos y0, if_pos (by omega), if_pos z0, if_pos (by omega), if_pos (by omega), if_pos (by simp only [ByteArray.size_extract, hb]; omega), if_pos (by simp only [ByteArray.size_append, ByteArray.size_extract, hb]; omega)]
        exact ⟨_, _, _, rfl, by simp only [ByteArray.size_append, ByteArray.size_extract, hb]; omega⟩
      · rw [if_neg c2]
        by_cases c3 : y < (t.size : Int)
        · rw [if_pos c3, if_pos y0, if_pos (by omega), if_pos z0, if_pos (by omega), if_pos (by omega), if_pos (by simp only [ByteArray.size_extract, hb]; omega), if_pos (by omega), if_pos (by omega), if_pos (by simp only [ByteArray.size_append, ByteArray.size_extract, hb]; omega)]
          exact ⟨_, _, _, rfl, by simp only [ByteArray.size_append, ByteArray.size_extract, hb]; omega⟩
        · rw [if_neg c3]
          exact ⟨_, _, _, rfl, by omega⟩
theorem prefixL_len {a b : Int} (h : okP a b) : (prefixL a b).length ≤ 1200 := by
  have l1 := addrL_len h.1
  have hb := h.2.1
  have l2 := dec_len (a := b.toNat) (by omega)
  unfold prefixL
  simp only [List.length_append, List.length_cons, List.length_nil]
  omega
theorem draw_f {l : List Int} (hl : l.length ≤ 1048576) {k : Nat} (hk : l.length + 400 < k) : ∃ t, spec_DrawReadPrefix.f k l = some t ∧ t.size ≤ 1048576 := by
  unfold spec_DrawReadPrefix.f
  obtain ⟨st, e⟩ := l01b_f (l := l) (by omega) (k := k) (by omega)
  rw [e, Option.bind_some]
  obtain ⟨a, b, p1, s1, e, hp1⟩ := pre_f (l := l) (by omega) st (p := 0) (by omega) (k := k) (by omega)
  rw [e, Option.bind_some]
  dsimp only
  by_cases h : okP a b
  · have := prefixL_len h
    rw [showP_spec h (by omega), Option.bind_some]
    obtain ⟨r, p2, s2, e, hr⟩ := bend_f (l := l) (by omega) s1 hp1 (t := BA (prefixL a b)) (by rw [BA_size]; omega)
    rw [e]
    exact ⟨_, rfl, by show r.size ≤ 1048576; omega⟩
  · rw [showP_none h (by omega), Option.bind_some]
    obtain ⟨r, p2, s2, e, hr⟩ := bend_f (l := l) (by omega) s1 hp1 (t := (⟨#[]⟩ : ByteArray)) (by show 0 ≤ 2000; omega)
    rw [e]
    exact ⟨_, rfl, by show r.size ≤ 1048576; omega⟩
theorem FnAddrText : ∀ (l0 : List Int), l0.length ≤ maxLen → (∀ x ∈ l0, (Lit.int .u8 x).wf = true) → ∃ k, laws_FnAddrText.f k l0 = some true := by
  intro l _ _
  obtain ⟨k, hk⟩ : ∃ k, k = 14000000 := ⟨_, rfl⟩
  refine ⟨k, ?_⟩
  unfold laws_FnAddrText.f
  refine if_pos ?_
  by_cases h : (l.length : Int) > 1048576
  · exact .inl h
  · refine .inr ⟨by omega, ?_⟩
    have hl : l.length ≤ 1048576 := by omega
    obtain ⟨s0, e1⟩ := lwb_f hl 4 (k := k) (by omega)
    obtain ⟨x, p1, s1, e2, x0, x1, hp1⟩ := lwn_f hl s0 (p := 0) (n := 2147483648) (by omega) (by omega) (by omega)
    obtain ⟨y, p2, s2, e3, y0, y1, hp2⟩ := lwn_f hl s1 (p := p1) (n := 16777216) hp1 (by omega) (by omega)
    obtain ⟨z, p3, s3, e4, z0, z1, hp3⟩ := lwn_f hl s2 (p := p2) (n := 16777216) hp2 (by omega) (by omega)
    obtain ⟨txt, e9, ht⟩ := draw_f hl (k := k) (by omega)
    obtain ⟨⟨pa, pb, pc⟩, e11, e10⟩ := readP_f txt ht (k := k) (by omega)
    have ha : 0 ≤ x * 2 ∧ x * 2 ≤ 4294967295 := by omega
    have hm : 0 ≤ y * 16777216 + z ∧ y * 16777216 + z ≤ 281474976710655 := by omega
    have wa : wrap64 (x * 2) = x * 2 := wr64 (by omega)
    have wm : wrap64 (wrap64 (y * 16777216) + z) = y * 16777216 + z := by rw [wr64 (a := y * 16777216) (by omega), wr64 (by omega)]
    have hml := macL_len (y * 16777216 + z)
    have hb : (bytesOf (BA (macL (y * 16777216 + z)))).length = 17 := by rw [bytesOf_length, BA_size, hml]
    have eu := up_l (bytesOf (BA (macL (y * 16777216 + z)))) k [] (by omega) (by simp; omega)
    have sh : ∃ again ac, impl_ShowPrefix.f k pa pb = some (again, ac) ∧ (pc ≠ 0 ∨ ac = 0 ∧ again = txt) := by
      by_cases hpc : pc = 0
      · subst hpc
        obtain ⟨ho, et⟩ := readP_text ht (by omega) e11
        exact ⟨_, _, showP_impl ho (by omega), .inr ⟨rfl, et.symm⟩⟩
      · by_cases ho : okP pa pb
        · exact ⟨_, _, showP_impl ho (by omega), .inl hpc⟩
        · exact ⟨_, _, showP_impl_none ho (by omega), .inl hpc⟩
    obtain ⟨again, ac, e12, hz⟩ := sh
    refine ⟨0, s0, x, p1, s1, y, p2, s2, z, p3, s3, BA (addrL (x * 2)), BA (macL (y * 16777216 + z)), _, txt, pa, pb, pc, again, ac, e1, e2, e3, e4, ?_, ?_, ?_, ?_, eu, ?_, e9, e10, e11, e12, hz⟩
    · rw [wa]
      exact showA_impl ha (by omega)
    · rw [wa]
      exact readA_show ha (by omega)
    · rw [wm]
      exact showM_impl hm (by omega)
    · rw [BA_size, hml]
      omega
    · rw [wm, List.nil_append, up_text, readM_i _ (by rw [BA_size, List.length_map, hml]; omega) (k := k) (by omega), BA_data, mac_up hm]

end Go.Proofs.YtnnplkhjmdbmbaaDoor.Pure
