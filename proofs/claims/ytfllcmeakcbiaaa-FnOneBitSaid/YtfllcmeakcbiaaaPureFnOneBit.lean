/- One bit turned in the bytes of a drawn datagram or segment never makes another one: of a datagram it is refused or the same, of a segment it is refused; without conditions. -/
import Derived.Test.YtfllcmeakcbiaaaPFnOneBitx12
set_option linter.unusedVariables false
set_option linter.unusedSimpArgs false
namespace Go.Proofs.Ytfllcmeakcbiaaa.Pure
open Go.RowKit Go.Proofs.Ytfllcmeakcbiaaa.PFnOneBit Go.Proofs.YtfllcmeakcbiaaaW.PrintWords Go.Proofs.YtfllcmeakcbiaaaW.PrintLast

/-! ### base -/
theorem wf64 {a : Int} (h : (Lit.int .i64 a).wf = true) : -9223372036854775808 ≤ a ∧ a ≤ 9223372036854775807 := by
  have h1 : IntKind.i64.min = -9223372036854775808 := by decide
  have h2 : IntKind.i64.max = 9223372036854775807 := by decide
  simp only [Lit.wf, Bool.and_eq_true, decide_eq_true_eq] at h
  omega
theorem tm_pos {a : Int} (n : Int) (h : 0 ≤ a) : Int.tmod a n = a % n := Int.tmod_eq_emod_of_nonneg h
theorem tm_neg {a : Int} (n : Int) (h : a ≤ 0) : Int.tmod a n = -((-a) % n) := by
  have := Int.neg_tmod (-a) n
  rw [Int.neg_neg] at this
  rw [this, Int.tmod_eq_emod_of_nonneg (by omega)]
theorem td_pos {a : Int} (n : Int) (h : 0 ≤ a) : Int.tdiv a n = a / n := Int.tdiv_eq_ediv_of_nonneg h
theorem wr64 {a : Int} (h : -9223372036854775808 ≤ a ∧ a ≤ 9223372036854775807) : wrap64 a = a := by
  unfold wrap64
  omega
theorem dec_eq {p : Prop} [Decidable p] {b : Bool} (h : b = true ↔ p) : some b = some (decide p) := by
  rw [Option.some.injEq, Bool.eq_iff_iff, decide_eq_true_eq]
  exact h
theorem ite_dec (p q : Prop) [Decidable p] [Decidable q] : (if p then some (decide q) else some false) = some (decide (p ∧ q)) := by
  by_cases h : p <;> simp [h]
theorem beq_dec (a b : Int) : (a == b) = decide (a = b) := by
  rw [Bool.eq_iff_iff]
  simp

/-! ### bits -/
theorem wraps_i64 (n : Int) (h₀ : 0 ≤ n) (h₁ : n < 2 ^ 63) : IntKind.i64.wrap n = n := by rw [IntKind.wrap_i64]; omega
/-- The low bits of any whole number. -/
theorem and_low (i : Nat) (hi : i ≤ 62) (x : Int) : Go.bits .and .i64 x (2 ^ i - 1) = x % 2 ^ i := by
  have hpos : 0 < 2 ^ i := Nat.two_pow_pos i
  have h62 : 2 ^ i ≤ 2 ^ 62 := Nat.pow_le_pow_right (by decide) hi
  have hc : ((2 : Int) ^ i - 1) = ((2 ^ i - 1 : Nat) : Int) := by
    rw [Int.natCast_sub hpos]; simp
  have hx0 : 0 ≤ x % 18446744073709551616 := Int.emod_nonneg _ (by decide)
  have hx : (BitVec.ofInt 64 x).toNat = (x % 18446744073709551616).toNat := by rw [BitVec.toNat_ofInt]; rfl
  have hd : ((2 : Int) ^ i) ∣ 18446744073709551616 := by
    rw [show (18446744073709551616 : Int) = 2 ^ 64 from rfl]
    exact ⟨2 ^ (64 - i), by rw [← Int.pow_add, show i + (64 - i) = 64 from by omega]⟩
  have h2 : ((x % 18446744073709551616).toNat % 2 ^ i : Nat) = (x % 2 ^ i).toNat := by
    apply Int.ofNat.inj
    have e1 : (((x % 18446744073709551616).toNat % 2 ^ i : Nat) : Int) = x % 2 ^ i := by
      rw [Int.natCast_emod, Int.toNat_of_nonneg hx0, Int.natCast_pow]
      exact Int.emod_emod_of_dvd _ hd
    have e2 : 0 ≤ x % 2 ^ i := Int.emod_nonneg _ (by have : (0 : Int) < 2 ^ i := Int.pow_pos (by decide); omega)
    exact e1.trans (Int.toNat_of_nonneg e2).symm
  have e2 : 0 ≤ x % 2 ^ i := Int.emod_nonneg _ (by have : (0 : Int) < 2 ^ i := Int.pow_pos (by decide); omega)
  have e3 : x % 2 ^ i < 2 ^ i := Int.emod_lt_of_pos _ (Int.pow_pos (by decide))
  have e4 : (2 : Int) ^ i ≤ 2 ^ 62 := by exact_mod_cast h62
  have key : Go.bits .and .i64 x (2 ^ i - 1) = IntKind.i64.wrap (((BitVec.ofInt 64 x).toNat &&& (BitVec.ofInt 64 ((2 ^ i - 1 : Nat) : Int)).toNat : Nat) : Int) := by
    rw [hc]
    show IntKind.i64.wrap ((BitVec.ofInt 64 x &&& BitVec.ofInt 64 ((2 ^ i - 1 : Nat) : Int)).toNat : Int) = _
    rw [BitVec.toNat_and]
  rw [key, hx]
  have hm : (BitVec.ofInt 64 ((2 ^ i - 1 : Nat) : Int)).toNat = 2 ^ i - 1 := by
    rw [BitVec.ofInt_natCast, BitVec.toNat_ofNat]
    exact Nat.mod_eq_of_lt (by omega)
  rw [hm, Nat.and_two_pow_sub_one_eq_mod, h2, Int.toNat_of_nonneg e2]
  exact wraps_i64 _ e2 (by omega)
theorem and_65535 (x : Int) : Go.bits .and .i64 x 65535 = x % 65536 := and_low 16 (by decide) x
theorem and_255 (x : Int) : Go.bits .and .i64 x 255 = x % 256 := and_low 8 (by decide) x
theorem nat_and_high (a n : Nat) (ha : a < 2 ^ 32) (hn : n ≤ 32) : a &&& ((2 ^ (32 - n) - 1) * 2 ^ n) = a / 2 ^ n * 2 ^ n := by
  apply Nat.eq_of_testBit_eq
  intro i
  rw [Nat.testBit_and, Nat.testBit_mul_two_pow, Nat.testBit_mul_two_pow, Nat.testBit_div_two_pow, Nat.testBit_two_pow_sub_one]
  by_cases h : n ≤ i
  · simp only [h, decide_true, Bool.true_and]
    rw [show i - n + n = i from by omega]
    by_cases h3 : i - n < 32 - n
    · simp [h3]
    · have : a.testBit i = false := Nat.testBit_lt_two_pow (Nat.lt_of_lt_of_le ha (Nat.pow_le_pow_right (by decide) (by omega)))
      simp [this]
  · simp [h]
theorem and_high (a : Int) (n : Nat) (h0 : 0 ≤ a) (h1 : a ≤ 4294967295) (hn : n ≤ 32) : Go.bits .and .i64 a ((2 ^ (32 - n) - 1) * 2 ^ n) = a / 2 ^ n * 2 ^ n := by
  obtain ⟨b, rfl⟩ := Int.eq_ofNat_of_zero_le h0
  have hc : (((2 : Int) ^ (32 - n) - 1) * 2 ^ n) = (((2 ^ (32 - n) - 1) * 2 ^ n : Nat) : Int) := by
    rw [Int.natCast_mul, Int.natCast_sub (Nat.two_pow_pos _)]; simp
  have hl : (2 ^ (32 - n) - 1) * 2 ^ n ≤ 4294967295 := by
    rw [Nat.sub_mul, ← Nat.pow_add, show 32 - n + n = 32 from by omega]
    have := Nat.two_pow_pos n
    omega
  rw [hc, (bits_nat .i64 63 (by decide) wraps_i64 b _ (by omega) (by omega)).1, nat_and_high b n (by omega) hn]
  simp

/-! ### addr0 -/
theorem in_f (a l h : Int) : spec_l01In.f a l h = some (decide (l ≤ a ∧ a ≤ h)) := by
  unfold spec_l01In.f
  by_cases h1 : a ≥ l
  · rw [if_pos h1]; congr 1; rw [decide_eq_decide]; omega
  · rw [if_neg h1]; congr 1; rw [eq_comm, decide_eq_false_iff_not]; omega

/-! ### addr -/
theorem addrOK_f (a : Int) : spec_l02AddrOK.f a = some (decide (0 ≤ a ∧ a ≤ 4294967295)) := by
  unfold spec_l02AddrOK.f
  rw [in_f]
  rfl
theorem isAddr_f (a : Int) : impl_isAddr.f a = some (decide (0 ≤ a ∧ a ≤ 4294967295)) := by
  unfold impl_isAddr.f
  by_cases h1 : a ≥ 0
  · rw [if_pos h1]; congr 1; rw [decide_eq_decide]; omega
  · rw [if_neg h1]; congr 1; rw [eq_comm, decide_eq_false_iff_not]; omega

/-! ### lists -/
theorem rd_at {xs : List Int} {i : Nat} (h : i < xs.length) : rd xs (i : Int) = xs[i] := by
  unfold rd
  rw [Int.toNat_natCast, List.getD_eq_getElem?_getD, List.getElem?_eq_getElem h]
  rfl
theorem wr_succ {i n : Nat} (h : i < n) (hn : n ≤ 281474976710656) : wrap64 ((i : Int) + 1) = ((i + 1 : Nat) : Int) := by
  rw [wr64 (by omega)]
  omega
theorem maxLen_le {n : Nat} (h : n ≤ 1048576) : n ≤ 281474976710656 := by omega

/-! ### l01copy -/
theorem copy_l (x0 : List Int) (hn : x0.length ≤ 1048576) (d : Nat) : ∀ (k i : Nat), i + d = x0.length → d < k → spec_l01Copy.l0 k x0 (x0.take i) (i : Int) = some x0 := by
  induction d with
  | zero =>
    intro k i hi hk
    obtain ⟨k, rfl⟩ : ∃ m, k = m + 1 := ⟨k - 1, by omega⟩
    simp only [spec_l01Copy.l0]
    rw [if_neg (by omega), List.take_of_length_le (by omega)]
  | succ d ih =>
    intro k i hi hk
    obtain ⟨k, rfl⟩ : ∃ m, k = m + 1 := ⟨k - 1, by omega⟩
    simp only [spec_l01Copy.l0]
    rw [if_pos (by omega), if_pos (by omega), if_pos (by rw [List.length_take]; omega), wr_succ (n := x0.length) (by omega) (by omega), rd_at (by omega), ← List.take_succ_eq_append_getElem (by omega)]
    exact ih k (i + 1) (by omega) (by omega)
theorem copy_f {l : List Int} (hn : l.length ≤ 1048576) {k : Nat} (hk : l.length < k) : spec_l01Copy.f k l = some l := copy_l l hn l.length k 0 (by omega) hk

/-! ### l01join -/
theorem join_l (a x1 : List Int) (ha : a.length ≤ 1048576) (hn : x1.length ≤ 1048576) (d : Nat) : ∀ (k i : Nat), i + d = x1.length → d < k → spec_l01Join.l0 k x1 (a ++ x1.take i) (i : Int) = some (a ++ x1) := by
  induction d with
  | zero =>
    intro k i hi hk
    obtain ⟨k, rfl⟩ : ∃ m, k = m + 1 := ⟨k - 1, by omega⟩
    simp only [spec_l01Join.l0]
    rw [if_neg (by omega), List.take_of_length_le (by omega)]
  | succ d ih =>
    intro k i hi hk
    obtain ⟨k, rfl⟩ : ∃ m, k = m + 1 := ⟨k - 1, by omega⟩
    simp only [spec_l01Join.l0]
    rw [if_pos (by omega), if_pos (by omega), if_pos (by rw [List.length_append, List.length_take]; omega), wr_succ (n := x1.length) (by omega) (by omega), rd_at (by omega), List.append_assoc, ← List.take_succ_eq_append_getElem (by omega)]
    exact ih k (i + 1) (by omega) (by omega)
theorem join_f {a b : List Int} (ha : a.length ≤ 1048576) (hb : b.length ≤ 1048576) {k : Nat} (hk : a.length < k) (hk2 : b.length < k) : spec_l01Join.f k a b = some (a ++ b) := by
  unfold spec_l01Join.f
  rw [copy_f ha hk]
  have := join_l a b ha hb b.length k 0 (by omega) hk2
  simpa using this

/-! ### wsum -/
/-- What a sum of numbers of two bytes folds to. -/
def fold (s : Int) : Int := if s = 0 then 0 else (s - 1) % 65535 + 1
theorem fold_le (s : Int) (h : 0 ≤ s) : 0 ≤ fold s ∧ fold s ≤ 65535 := by unfold fold; split <;> omega
theorem fold_low {s : Int} (h : 0 ≤ s ∧ s ≤ 65535) : fold s = s := by unfold fold; split <;> omega
theorem fold_step {s : Int} (h : s > 65535) : fold (s / 65536 + s % 65536) = fold s := by
  unfold fold
  rw [if_neg (by omega), if_neg (by omega)]
  omega
theorem fold_sub {s : Int} (h : s > 65535) : fold (s - 65535) = fold s := by
  unfold fold
  rw [if_neg (by omega), if_neg (by omega)]
  omega
/-- The sum of bytes: the one at a place with 'b' counts 256 times, and so on in turn. -/
def wsp : Bool → List Int → Int
  | _, [] => 0
  | true, a :: r => a * 256 + wsp false r
  | false, a :: r => a + wsp true r
/-- All are bytes. -/
def Bs (l : List Int) : Prop := ∀ x ∈ l, 0 ≤ x ∧ x ≤ 255
theorem Bs.get {l : List Int} (h : Bs l) {i : Nat} (hi : i < l.length) : 0 ≤ l[i] ∧ l[i] ≤ 255 := h _ (List.getElem_mem hi)
theorem Bs.of {l : List Int} (h : ∀ x ∈ l, (Lit.int .u8 x).wf = true) : Bs l := by
  intro x hx
  have hw := h x hx
  have h1 : IntKind.u8.min = 0 := by decide
  have h2 : IntKind.u8.max = 255 := by decide
  simp only [Lit.wf, Bool.and_eq_true, decide_eq_true_eq] at hw
  omega
theorem Bs.append {a b : List Int} (ha : Bs a) (hb : Bs b) : Bs (a ++ b) := by
  intro x hx
  rcases List.mem_append.1 hx with h | h
  · exact ha x h
  · exact hb x h
theorem Bs.take {l : List Int} (h : Bs l) (n : Nat) : Bs (l.take n) := fun x hx => h x (List.mem_of_mem_take hx)
theorem Bs.drop {l : List Int} (h : Bs l) (n : Nat) : Bs (l.drop n) := fun x hx => h x (List.mem_of_mem_drop hx)
theorem Bs.tail {a : Int} {l : List Int} (h : Bs (a :: l)) : Bs l := fun x hx => h x (List.mem_cons_of_mem _ hx)
theorem wsp_bd (l : List Int) : ∀ (b : Bool), Bs l → 0 ≤ wsp b l ∧ wsp b l ≤ 65280 * (l.length : Int) := by
  induction l with
  | nil => intro b _; cases b <;> simp [wsp]
  | cons a r ih =>
    intro b h
    have ha := h a (List.mem_cons_self ..)
    have h1 := ih true h.tail
    have h2 := ih false h.tail
    cases b <;> (simp only [wsp, List.length_cons]; omega)
theorem drop_cons {l : List Int} {i : Nat} (h : i < l.length) : l.drop i = l[i] :: l.drop (i + 1) := List.drop_eq_getElem_cons h
/-- The checksum of bytes. -/
def csum (l : List Int) : Int := 65535 - fold (wsp true l)
theorem csum_le {l : List Int} (h : Bs l) : 0 ≤ csum l ∧ csum l ≤ 65535 := by
  have := fold_le _ (wsp_bd l true h).1
  unfold csum
  omega

/-! ### specsum -/
theorem ssum_l (l : List Int) (hb : Bs l) (hn : l.length ≤ 1048576) (d : Nat) : ∀ (k i : Nat) (s : Int), l.length - i ≤ d → d < k → 0 ≤ s → s ≤ 65535 → i ≤ l.length + 1 → spec_l01Sum.l0 k l s (i : Int) = some (fold (s + wsp true (l.drop i))) := by
  induction d with
  | zero =>
    intro k i s hi hk h0 h1 hl
    obtain ⟨k, rfl⟩ : ∃ m, k = m + 1 := ⟨k - 1, by omega⟩
    simp only [spec_l01Sum.l0]
    rw [if_neg (by omega), List.drop_eq_nil_of_le (by omega)]
    simp only [wsp, Int.add_zero]
    rw [fold_low ⟨h0, h1⟩]
  | succ d ih =>
    intro k i s hi hk h0 h1 hl
    obtain ⟨k, rfl⟩ : ∃ m, k = m + 1 := ⟨k - 1, by omega⟩
    simp only [spec_l01Sum.l0]
    by_cases c1 : i < l.length
    · have b1 := hb.get c1
      rw [if_pos (by omega), if_pos (by omega), wr64 (a := (i : Int) + 1) (by omega), rd_at c1, wr64 (a := l[i]) (by omega), wr64 (a := l[i] * 256) (by omega), drop_cons c1]
      by_cases c2 : i + 1 < l.length
      · have b2 := hb.get c2
        have bd := wsp_bd (l.drop (i + 1 + 1)) true (hb.drop _)
        rw [if_pos (by omega), if_pos (by omega), show (i : Int) + 1 = ((i + 1 : Nat) : Int) from by omega, rd_at c2, wr64 (a := l[i + 1]) (by omega), wr64 (a := l[i] * 256 + l[i + 1]) (by omega), wr64 (a := s + (l[i] * 256 + l[i + 1])) (by omega), wr64 (a := (i : Int) + 2) (by omega), show (i : Int) + 2 = ((i + 1 + 1 : Nat) : Int) from by omega, drop_cons c2]
        simp only [wsp]
        by_cases c3 : s + (l[i] * 256 + l[i + 1]) > 65535
        · rw [if_pos c3, wr64 (by omega), ih k _ _ (by omega) (by omega) (by omega) (by omega) (by omega)]
          rw [← fold_sub (s := s + (l[i] * 256 + (l[i + 1] + wsp true (l.drop (i + 1 + 1))))) (by omega)]
          congr 2
          omega
        · rw [if_neg c3, ih k _ _ (by omega) (by omega) (by omega) (by omega) (by omega)]
          congr 2
          omega
      · rw [if_neg (by omega), wr64 (a := s + l[i] * 256) (by omega), wr64 (a := (i : Int) + 2) (by omega), show (i : Int) + 2 = ((i + 2 : Nat) : Int) from by omega, List.drop_eq_nil_of_le (show l.length ≤ i + 1 by omega)]
        have e2 : l.drop (i + 2) = [] := List.drop_eq_nil_of_le (by omega)
        simp only [wsp, Int.add_zero]
        by_cases c3 : s + l[i] * 256 > 65535
        · rw [if_pos c3, wr64 (by omega), ih k _ _ (by omega) (by omega) (by omega) (by omega) (by omega), e2]
          simp only [wsp, Int.add_zero]
          rw [← fold_sub (s := s + l[i] * 256) c3]
        · rw [if_neg c3, ih k _ _ (by omega) (by omega) (by omega) (by omega) (by omega), e2]
          simp only [wsp, Int.add_zero]
    · rw [if_neg (by omega), List.drop_eq_nil_of_le (by omega)]
      simp only [wsp, Int.add_zero]
      rw [fold_low ⟨h0, h1⟩]
theorem scheck_f {l : List Int} (hb : Bs l) (hn : l.length ≤ 1048576) {k : Nat} (hk : l.length < k) : spec_Checksum.f k l = some (csum l) := by
  unfold spec_Checksum.f spec_l01Sum.f
  have h := ssum_l l hb hn l.length k 0 0 (by omega) hk (by omega) (by omega) (by omega)
  rw [show ((0 : Nat) : Int) = 0 from rfl] at h
  have bd := wsp_bd l true hb
  have fl := fold_le _ bd.1
  rw [h]
  simp only [Option.bind_some, List.drop_zero, Int.zero_add]
  rw [wr64 (by omega)]
  rfl

/-! ### carried -/
theorem wrap_u64 (n : Int) : IntKind.u64.wrap n = n % 18446744073709551616 := by simp [IntKind.wrap, IntKind.bits, IntKind.signed]
theorem wru {x : Int} (h : 0 ≤ x ∧ x < 18446744073709551616) : IntKind.u64.wrap x = x := by rw [wrap_u64]; omega
theorem wraps_u64 (n : Int) (h₀ : 0 ≤ n) (h₁ : n < 2 ^ 63) : IntKind.u64.wrap n = n := by rw [wrap_u64]; omega
theorem low_u64 (i : Nat) (hi : i ≤ 62) (x : Int) (h0 : 0 ≤ x) (h1 : x < 18446744073709551616) : Go.bits .and .u64 x (2 ^ i - 1) = x % 2 ^ i := by
  obtain ⟨a, rfl⟩ := Int.eq_ofNat_of_zero_le h0
  have hpos : 0 < 2 ^ i := Nat.two_pow_pos i
  have h62 : 2 ^ i ≤ 2 ^ 62 := Nat.pow_le_pow_right (by decide) hi
  have hc : ((2 : Int) ^ i - 1) = ((2 ^ i - 1 : Nat) : Int) := by
    rw [Int.natCast_sub hpos]; simp
  have hw : ∀ n : Int, 0 ≤ n → n < 2 ^ 64 → IntKind.u64.wrap n = n := fun n a b => by rw [wrap_u64]; omega
  rw [hc, (bits_nat .u64 64 (by decide) hw a _ (by omega) (by omega)).1, Nat.and_two_pow_sub_one_eq_mod]
  simp
theorem u64_65535 (x : Int) (h0 : 0 ≤ x) (h1 : x < 18446744073709551616) : Go.bits .and .u64 x 65535 = x % 65536 := low_u64 16 (by decide) x h0 h1
theorem not_u64 (x : Int) (h0 : 0 ≤ x) (h1 : x < 18446744073709551616) : Go.bits .xor .u64 18446744073709551615 x = 18446744073709551615 - x := by
  obtain ⟨a, rfl⟩ := Int.eq_ofNat_of_zero_le h0
  have key : Go.bits .xor .u64 18446744073709551615 (a : Int) = IntKind.u64.wrap ((BitVec.ofInt 64 18446744073709551615 ^^^ BitVec.ofInt 64 (a : Int)).toNat : Int) := rfl
  rw [key, show BitVec.ofInt 64 18446744073709551615 = BitVec.allOnes 64 from by decide, BitVec.allOnes_xor, BitVec.toNat_not, BitVec.ofInt_natCast, BitVec.toNat_ofNat, wrap_u64]
  omega
theorem not_i64 (x : Int) (h : -9223372036854775808 ≤ x ∧ x ≤ 9223372036854775807) : Go.bits .xor .i64 (-1) x = -1 - x := by
  have key : Go.bits .xor .i64 (-1) x = IntKind.i64.wrap ((BitVec.ofInt 64 (-1) ^^^ BitVec.ofInt 64 x).toNat : Int) := rfl
  rw [key, show BitVec.ofInt 64 (-1) = BitVec.allOnes 64 from by decide, BitVec.allOnes_xor, BitVec.toNat_not, BitVec.toNat_ofInt, IntKind.wrap_i64]
  omega
theorem carried_f {s : Int} (h0 : 0 ≤ s) (h1 : s < 281474976710656) {k : Nat} (hk : 8 ≤ k) : impl_carried.f k s = some (fold s) := by
  have h8 : impl_carried.f 8 s = some (fold s) := by
    unfold impl_carried.f
    have step : ∀ (k : Nat) (t : Int), 0 ≤ t → t < 281474976710656 → t > 65535 → impl_carried.l0 (k + 1) t = impl_carried.l0 k (t / 65536 + t % 65536) := by
      intro k t a b c
      simp only [impl_carried.l0]
      rw [if_pos c, u64_65535 _ a (by omega), wrap_u64, Int.emod_eq_of_lt (by omega) (by omega)]
    have stop : ∀ (k : Nat) (t : Int), 0 ≤ t → t ≤ 65535 → impl_carried.l0 (k + 1) t = some (fold t) := by
      intro k t a b
      simp only [impl_carried.l0]
      rw [if_neg (by omega), fold_low ⟨a, b⟩]
    by_cases a1 : s > 65535
    · rw [step 7 s h0 h1 a1, ← fold_step a1]
      generalize hs : s / 65536 + s % 65536 = s1
      have b1 : 0 ≤ s1 ∧ s1 < 4295032832 := by omega
      by_cases a2 : s1 > 65535
      · rw [step 6 s1 (by omega) (by omega) a2, ← fold_step a2]
        generalize hs2 : s1 / 65536 + s1 % 65536 = s2
        have b2 : 0 ≤ s2 ∧ s2 < 196608 := by omega
        by_cases a3 : s2 > 65535
        · rw [step 5 s2 (by omega) (by omega) a3, ← fold_step a3]
          generalize hs3 : s2 / 65536 + s2 % 65536 = s3
          have b3 : 0 ≤ s3 ∧ s3 < 65540 := by omega
          by_cases a4 : s3 > 65535
          · rw [step 4 s3 (by omega) (by omega) a4, ← fold_step a4]
            exact stop 3 _ (by omega) (by omega)
          · exact stop 4 _ (by omega) (by omega)
        · exact stop 5 _ (by omega) (by omega)
      · exact stop 6 _ (by omega) (by omega)
    · exact stop 7 _ (by omega) (by omega)
  exact at_rounds (fun k => impl_carried.mono s k) hk h8

/-! ### implsum -/
theorem isum_l (l : List Int) (hb : Bs l) (hn : l.length ≤ 1048576) (d : Nat) : ∀ (k i : Nat) (s : Int), i + d = l.length → d + 8 < k → 0 ≤ s → s + 65280 * (d : Int) < 281474976710656 → impl_Checksum.l0 k s l (l.length : Int) (i : Int) = some (65535 - fold (s + wsp (i % 2 == 0) (l.drop i))) := by
  induction d with
  | zero =>
    intro k i s hi hk h0 h1
    obtain ⟨k, rfl⟩ : ∃ m, k = m + 1 := ⟨k - 1, by omega⟩
    simp only [impl_Checksum.l0]
    rw [if_neg (by omega), List.drop_eq_nil_of_le (by omega), carried_f h0 (by omega) (by omega)]
    have e : ∀ b, wsp b [] = 0 := fun b => by cases b <;> rfl
    rw [e]
    simp only [Option.bind_some, Int.add_zero]
    have fl := fold_le s h0
    rw [not_u64 _ fl.1 (by omega), u64_65535 _ (by omega) (by omega), wr64 (by omega)]
    congr 1
    omega
  | succ d ih =>
    intro k i s hi hk h0 h1
    obtain ⟨k, rfl⟩ : ∃ m, k = m + 1 := ⟨k - 1, by omega⟩
    have c1 : i < l.length := by omega
    have b1 := hb.get c1
    simp only [impl_Checksum.l0]
    rw [if_pos (by omega), if_pos (by omega), if_pos (by omega), rd_at c1, tm_pos _ (by omega), wr_succ c1 (by omega), drop_cons c1, wrap_u64 l[i], Int.emod_eq_of_lt b1.1 (by omega)]
    by_cases c2 : i % 2 = 0
    · rw [if_pos (by omega), wrap_u64 (l[i] * 256), Int.emod_eq_of_lt (by omega) (by omega), wrap_u64, Int.emod_eq_of_lt (by omega) (by omega), ih k (i + 1) _ (by omega) (by omega) (by omega) (by omega)]
      rw [show (i % 2 == 0) = true from by simp [c2], show ((i + 1) % 2 == 0) = false from by simp; omega]
      simp only [wsp]
      congr 3
      omega
    · rw [if_neg (by omega), wrap_u64, Int.emod_eq_of_lt (by omega) (by omega), ih k (i + 1) _ (by omega) (by omega) (by omega) (by omega)]
      rw [show (i % 2 == 0) = false from by simp; omega, show ((i + 1) % 2 == 0) = true from by simp; omega]
      simp only [wsp]
      congr 3
      omega
theorem icheck_f {l : List Int} (hb : Bs l) (hn : l.length ≤ 1048576) {k : Nat} (hk : l.length + 8 < k) : impl_Checksum.f k l = some (csum l) := by
  unfold impl_Checksum.f
  have h := isum_l l hb hn l.length k 0 0 (by omega) hk (by omega) (by omega)
  rw [show ((0 : Nat) : Int) = 0 from rfl] at h
  rw [h]
  simp only [List.drop_zero, Int.zero_add]
  rfl

/-! ### num -/
/-- The number that bytes behind a number tell, the high one first. -/
def numa : Int → List Int → Int
  | a, [] => a
  | a, b :: r => numa (a * 256 + b) r
theorem pow_le6 {i : Nat} (h : i ≤ 6) : (2 : Int) ^ (8 * i) ≤ 281474976710656 := by
  rcases (show i = 0 ∨ i = 1 ∨ i = 2 ∨ i = 3 ∨ i = 4 ∨ i = 5 ∨ i = 6 by omega) with rfl | rfl | rfl | rfl | rfl | rfl | rfl <;> decide
theorem pow_8 (i : Nat) : (2 : Int) ^ (8 * (i + 1)) = 2 ^ (8 * i) * 256 := by
  rw [show 8 * (i + 1) = 8 * i + 8 from by omega, Int.pow_add]
  rfl
theorem numa_bd (l : List Int) : ∀ (i : Nat) (a : Int), Bs l → 0 ≤ a → a < 2 ^ (8 * i) → 0 ≤ numa a l ∧ numa a l < 2 ^ (8 * (i + l.length)) := by
  induction l with
  | nil => intro i a _ h0 h1; exact ⟨h0, h1⟩
  | cons b r ih =>
    intro i a hb h0 h1
    have hb0 := hb b (List.mem_cons_self ..)
    have e := pow_8 i
    have := ih (i + 1) (a * 256 + b) hb.tail (by omega) (by omega)
    rw [show i + 1 + r.length = i + (b :: r).length from by simp; omega] at this
    exact this

/-! ### implget -/
theorem or_byte {s b : Int} (h0 : 0 ≤ s) (h1 : s < 281474976710656) (hb : 0 ≤ b ∧ b ≤ 255) : Go.bits .or .i64 (s * 256) b = s * 256 + b :=
  bits_join .i64 63 (by decide) wraps_i64 8 (s * 256) b (by omega) (by omega) (by omega) hb.1 (by omega) (by omega)
theorem iget_l (l : List Int) (hb : Bs l) (hn : l.length ≤ 7) (d : Nat) : ∀ (k i : Nat) (s : Int), i + d = l.length → d < k → 0 ≤ s → s < 2 ^ (8 * i) → impl_get.l0 k s l (l.length : Int) (i : Int) = some (numa s (l.drop i)) := by
  induction d with
  | zero =>
    intro k i s hi hk h0 h1
    obtain ⟨k, rfl⟩ : ∃ m, k = m + 1 := ⟨k - 1, by omega⟩
    simp only [impl_get.l0]
    rw [if_neg (by omega), List.drop_eq_nil_of_le (by omega)]
    rfl
  | succ d ih =>
    intro k i s hi hk h0 h1
    obtain ⟨k, rfl⟩ : ∃ m, k = m + 1 := ⟨k - 1, by omega⟩
    have c1 : i < l.length := by omega
    have b1 := hb.get c1
    have p1 := pow_le6 (i := i) (by omega)
    have p2 := pow_8 i
    simp only [impl_get.l0]
    rw [if_pos (by omega), if_pos (by omega), if_pos (by omega), rd_at c1, wr64 (a := l[i]) (by omega), wr64 (a := s * 256) (by omega), or_byte h0 (by omega) b1, wr_succ c1 (by omega), ih k (i + 1) _ (by omega) (by omega) (by omega) (by omega), drop_cons c1]
    rfl
theorem iget_f {l : List Int} (hb : Bs l) (hn : l.length ≤ 7) {k : Nat} (hk : l.length < k) : impl_get.f k l = some (numa 0 l) := by
  unfold impl_get.f
  have := iget_l l hb hn l.length k 0 0 (by omega) hk (by omega) (by decide)
  simpa using this

/-! ### dup -/
theorem dup_f {l : List Int} (h : l.length ≤ 1048576) : impl_dup.f l = some l := by
  unfold impl_dup.f
  rw [if_pos (by simp; omega)]
  rfl

/-! ### be -/
/-- The low n bytes of a number, the high one first. -/
def be : Nat → Int → List Int
  | 0, _ => []
  | n + 1, v => (v / 2 ^ (8 * n) % 256) :: be n v
theorem be_len (n : Nat) (v : Int) : (be n v).length = n := by
  induction n with
  | zero => rfl
  | succ n ih => simp [be, ih]

/-! ### bebytes -/
theorem be_bytes (n : Nat) (v : Int) : Bs (be n v) := by
  induction n with
  | zero => intro x hx; cases hx
  | succ n ih =>
    intro x hx
    rcases List.mem_cons.1 hx with rfl | h
    · omega
    · exact ih x h

/-! ### specput -/
theorem sput_l (v : Int) (n : Nat) : ∀ (k : Nat) (x : List Int), n ≤ 8 → x.length + n ≤ 1048576 → n < k → spec_l03Put.l0 k v x ((n : Int) - 1) = some (x ++ be n v) := by
  induction n with
  | zero =>
    intro k x hn hx hk
    obtain ⟨k, rfl⟩ : ∃ m, k = m + 1 := ⟨k - 1, by omega⟩
    simp only [spec_l03Put.l0]
    rw [if_neg (by omega)]
    simp [be]
  | succ n ih =>
    intro k x hn hx hk
    obtain ⟨k, rfl⟩ : ∃ m, k = m + 1 := ⟨k - 1, by omega⟩
    simp only [spec_l03Put.l0]
    have h8 : IntKind.u64.wrap (wrap64 (8 * (((n + 1 : Nat) : Int) - 1))) = ((8 * n : Nat) : Int) := by
      rw [wr64 (by omega)]
      simp only [IntKind.wrap, IntKind.bits, IntKind.signed]
      simp
      omega
    rw [if_pos (by omega), h8, if_pos (by omega), if_pos (by omega), wr64 (by omega), show ((n + 1 : Nat) : Int) - 1 - 1 = (n : Int) - 1 from by omega]
    rw [ih k _ (by omega) (by simp; omega) (by omega)]
    unfold shr
    rw [show min ((8 * n : Nat) : Int).toNat IntKind.i64.bits = 8 * n from by rw [Int.toNat_natCast]; show min (8 * n) 64 = 8 * n; omega]
    simp [be, List.append_assoc]
theorem sput_f {v : Int} {n : Nat} (hn : n ≤ 8) {k : Nat} (hk : n < k) : spec_l03Put.f k v (n : Int) = some (be n v) := by
  unfold spec_l03Put.f
  rw [wr64 (by omega), sput_l v n k [] hn (by simp; omega) hk]
  rfl

/-! ### implput -/
theorem iput_l (v : Int) (n : Nat) : ∀ (k : Nat) (x : List Int), n ≤ 8 → x.length + n ≤ 1048576 → n < k → impl_put.l0 k x v ((n : Int) - 1) = some (x ++ be n v) := by
  induction n with
  | zero =>
    intro k x hn hx hk
    obtain ⟨k, rfl⟩ : ∃ m, k = m + 1 := ⟨k - 1, by omega⟩
    simp only [impl_put.l0]
    rw [if_neg (by omega)]
    simp [be]
  | succ n ih =>
    intro k x hn hx hk
    obtain ⟨k, rfl⟩ : ∃ m, k = m + 1 := ⟨k - 1, by omega⟩
    simp only [impl_put.l0]
    have h8 : wrap64 (8 * (((n + 1 : Nat) : Int) - 1)) = ((8 * n : Nat) : Int) := by
      rw [wr64 (by omega)]
      omega
    rw [if_pos (by omega), h8, if_pos (by omega), if_pos (by omega), wr64 (by omega), show ((n + 1 : Nat) : Int) - 1 - 1 = (n : Int) - 1 from by omega]
    rw [ih k _ (by omega) (by simp; omega) (by omega)]
    unfold shr
    rw [show min ((8 * n : Nat) : Int).toNat IntKind.u64.bits = 8 * n from by rw [Int.toNat_natCast]; show min (8 * n) 64 = 8 * n; omega]
    have hw : IntKind.u64.wrap v = v % 18446744073709551616 := by simp [IntKind.wrap, IntKind.bits, IntKind.signed]
    have hb : v % 18446744073709551616 / 2 ^ (8 * n) % 256 = v / 2 ^ (8 * n) % 256 := by
      rcases (show n = 0 ∨ n = 1 ∨ n = 2 ∨ n = 3 ∨ n = 4 ∨ n = 5 ∨ n = 6 ∨ n = 7 by omega) with rfl | rfl | rfl | rfl | rfl | rfl | rfl | rfl <;> simp <;> omega
    rw [hw, hb]
    simp [be, List.append_assoc]
theorem iput_f {l : List Int} {v : Int} {n : Nat} (hn : n ≤ 8) (hl : l.length + n ≤ 1048576) {k : Nat} (hk : n < k) : impl_put.f k l (n : Int) v = some (l ++ be n v) := by
  unfold impl_put.f
  rw [wr64 (by omega), iput_l v n k l hn hl hk]

/-! ### falsehead -/
def fhead (a b c d : Int) : List Int := be 4 a ++ be 4 b ++ [0, c % 256] ++ be 2 d
theorem fhead_len (a b c d : Int) : (fhead a b c d).length = 12 := by simp [fhead, be_len]
theorem sfh_f (a b c d : Int) {k : Nat} (hk : 40 ≤ k) : spec_FalseHead.f k a b c d = some (fhead a b c d) := by
  unfold spec_FalseHead.f fhead
  rw [show (4 : Int) = ((4 : Nat) : Int) from rfl, show (2 : Int) = ((2 : Nat) : Int) from rfl, sput_f (by omega) (by omega), sput_f (by omega) (by omega), sput_f (by omega) (by omega)]
  simp only [Option.bind_some]
  rw [join_f (by simp [be_len]) (by simp [be_len]) (by simp [be_len]; omega) (by simp [be_len]; omega)]
  simp only [Option.bind_some]
  rw [join_f (by simp [be_len]) (by simp) (by simp [be_len]; omega) (by simp; omega)]
  simp only [Option.bind_some]
  rw [join_f (by simp [be_len]) (by simp [be_len]) (by simp [be_len]; omega) (by simp [be_len]; omega)]
  rfl
theorem ifh_f (a b c d : Int) {k : Nat} (hk : 40 ≤ k) : impl_FalseHead.f k a b c d = some (fhead a b c d) := by
  unfold impl_FalseHead.f fhead
  rw [show (4 : Int) = ((4 : Nat) : Int) from rfl, show (2 : Int) = ((2 : Nat) : Int) from rfl, iput_f (by omega) (by simp) (by omega)]
  simp only [Option.bind_some, List.nil_append]
  rw [iput_f (by omega) (by simp [be_len]) (by omega)]
  simp only [Option.bind_some]
  rw [if_pos (by simp [be_len]), iput_f (by omega) (by simp [be_len]) (by omega)]
  rfl
theorem fhead_bytes (a b c d : Int) : Bs (fhead a b c d) := by
  unfold fhead
  refine Bs.append (Bs.append (Bs.append (be_bytes _ _) (be_bytes _ _)) ?_) (be_bytes _ _)
  intro x hx
  simp only [List.mem_cons, List.not_mem_nil, or_false] at hx
  rcases hx with rfl | rfl <;> omega

/-! ### l10sum -/
theorem l10_f {l : List Int} (hb : Bs l) (hn : l.length ≤ 1000000) (a b c : Int) {k : Nat} (hk : l.length + 40 ≤ k) : spec_l10Sum.f k l a b c = some (csum (fhead a b c (l.length : Int) ++ l)) := by
  unfold spec_l10Sum.f
  have hl := fhead_len a b c (l.length : Int)
  rw [sfh_f _ _ _ _ (by omega)]
  simp only [Option.bind_some]
  rw [join_f (by omega) (by omega) (by omega) (by omega)]
  simp only [Option.bind_some]
  rw [scheck_f ((fhead_bytes _ _ _ _).append hb) (by simp; omega) (by simp; omega)]
  rfl

/-! ### patch -/
theorem fold_mod {x : Int} (h : 0 ≤ x) : fold x % 65535 = x % 65535 := by
  unfold fold
  split <;> omega
def wt (b : Bool) (i : Nat) : Int := if (i % 2 == 0) = b then 256 else 1
theorem wt_succ (b : Bool) (i : Nat) : wt b (i + 1) = wt (!b) i := by
  unfold wt
  have h : ((i + 1) % 2 == 0) = !(i % 2 == 0) := by
    rcases Nat.mod_two_eq_zero_or_one i with h | h
    · rw [show (i + 1) % 2 = 1 from by omega, h]; rfl
    · rw [show (i + 1) % 2 = 0 from by omega, h]; rfl
  rw [h]
  cases b <;> cases (i % 2 == 0) <;> rfl
theorem wsp_set (l : List Int) : ∀ (b : Bool) (i : Nat) (x : Int) (h : i < l.length), wsp b (l.set i x) = wsp b l + (x - l[i]) * wt b i := by
  induction l with
  | nil => intro b i x h; simp at h
  | cons a r ih =>
    intro b i x h
    cases i with
    | zero => cases b <;> (simp only [List.set_cons_zero, wsp, wt, List.getElem_cons_zero]; simp; omega)
    | succ i =>
      have h2 : i < r.length := by simpa using h
      have e := ih (!b) i x h2
      rw [wt_succ, List.set_cons_succ]
      cases b <;> (simp only [wsp, List.getElem_cons_succ]; simp only [Bool.not_true, Bool.not_false] at e ⊢; omega)
theorem wsp_app (l m : List Int) : ∀ b : Bool, wsp b (l ++ m) = wsp b l + wsp (if l.length % 2 = 0 then b else !b) m := by
  induction l with
  | nil => intro b; simp [wsp]
  | cons a r ih =>
    intro b
    have e := ih (!b)
    have h : (if (a :: r).length % 2 = 0 then b else !b) = (if r.length % 2 = 0 then !b else !!b) := by
      simp only [List.length_cons]
      rcases Nat.mod_two_eq_zero_or_one r.length with h | h
      · rw [if_neg (by omega), if_pos h]
      · rw [if_pos (by omega), if_neg (by omega), Bool.not_not]
    rw [h, List.cons_append]
    cases b <;> (simp only [wsp]; simp only [Bool.not_true, Bool.not_false] at e ⊢; omega)
theorem csum_end {c : List Int} (hb : Bs c) (h2 : c.length % 2 = 0) : csum (c ++ [csum c / 256 % 256, csum c % 256]) = 0 := by
  have hS := (wsp_bd c true hb).1
  unfold csum
  rw [wsp_app, if_pos h2]
  simp only [wsp]
  generalize wsp true c = S at *
  unfold fold
  by_cases h : S = 0
  · subst h
    simp
  · rw [if_neg h]
    split <;> omega

/-! ### drawbase -/
theorem u64_nn (y : Int) : 0 ≤ IntKind.u64.wrap y := by simp [IntKind.wrap, IntKind.bits, IntKind.signed]; omega
theorem u64_id {y : Int} (h : 0 ≤ y ∧ y ≤ 9223372036854775807) : IntKind.u64.wrap y = y := by simp [IntKind.wrap, IntKind.bits, IntKind.signed]; omega
theorem xor_nn (a b : Int) : 0 ≤ Go.bits .xor .u64 a b := by
  show 0 ≤ IntKind.u64.wrap _
  exact u64_nn _
theorem mod_in {x n : Int} (hx : 0 ≤ x) (hn : 0 < n) (h2 : n ≤ 4611686018427387904) : 0 ≤ wrap64 (Int.tmod x n) ∧ wrap64 (Int.tmod x n) < n := by
  have e : Int.tmod x n = x % n := tm_pos n hx
  have h0 := Int.emod_nonneg x (show n ≠ 0 by omega)
  have h1 := Int.emod_lt_of_pos x hn
  rw [e, wr64 (by omega)]
  exact ⟨h0, h1⟩

/-! ### lwdraw -/
theorem lwb_l (l : List Int) (hn : l.length ≤ 1048576) (m : List Int) (p : Int) (d : Nat) : ∀ (k i : Nat) (st : Int), i + d = l.length → d < k → ∃ st', laws_lwBegin.l0 k l (i : Int) m p st = some (p, st') := by
  induction d with
  | zero =>
    intro k i st hi hk
    obtain ⟨k, rfl⟩ : ∃ m, k = m + 1 := ⟨k - 1, by omega⟩
    simp only [laws_lwBegin.l0]
    rw [if_neg (by omega)]
    exact ⟨st, rfl⟩
  | succ d ih =>
    intro k i st hi hk
    obtain ⟨k, rfl⟩ : ∃ m, k = m + 1 := ⟨k - 1, by omega⟩
    simp only [laws_lwBegin.l0]
    rw [if_pos (by omega), if_pos (by omega), wr_succ (n := l.length) (by omega) (by omega)]
    exact ih k (i + 1) _ (by omega) (by omega)
theorem lwb_f {l : List Int} (hn : l.length ≤ 1048576) (a : Int) {k : Nat} (hk : l.length < k) : ∃ st, laws_lwBegin.f k l a = some (0, st) := by
  unfold laws_lwBegin.f
  exact lwb_l l hn l 0 l.length k 0 _ (by omega) hk
theorem lwn_f {l : List Int} (hl : l.length ≤ 1048576) {p : Int} (st : Int) {n : Int} (hp : 0 ≤ p) (hn : 0 < n) (h2 : n ≤ 4611686018427387904) : ∃ r p' st', laws_lwNext.f l p st n = some (r, p', st') ∧ 0 ≤ r ∧ r < n ∧ 0 ≤ p' := by
  unfold laws_lwNext.f
  rw [if_neg (show ¬ n ≤ 0 by omega), u64_id (y := n) (by omega)]
  by_cases h : p < (l.length : Int)
  · rw [if_pos h, if_pos hp, if_neg (show ¬ n = 0 by omega)]
    have := mod_in (xor_nn (IntKind.u64.wrap (IntKind.u64.wrap (st * 6364136223846793005) + 1442695040888963407) / 8589934592) (IntKind.u64.wrap (rd l p))) hn h2
    exact ⟨_, _, _, rfl, this.1, this.2, by rw [wr64 (by omega)]; omega⟩
  · rw [if_neg h, if_neg (show ¬ n = 0 by omega)]
    have hq : 0 ≤ IntKind.u64.wrap (IntKind.u64.wrap (st * 6364136223846793005) + 1442695040888963407) / 8589934592 := by
      have := u64_nn (IntKind.u64.wrap (st * 6364136223846793005) + 1442695040888963407)
      omega
    have := mod_in hq hn h2
    exact ⟨_, _, _, rfl, this.1, this.2, hp⟩

/-! ### l01draw -/
theorem l01b_l (l : List Int) (hn : l.length ≤ 1048576) (m : List Int) (p : Int) (d : Nat) : ∀ (k i : Nat) (st : Int), i + d = l.length → d < k → ∃ st', spec_l01Begin.l0 k l (i : Int) m p st = some (p, st') := by
  induction d with
  | zero =>
    intro k i st hi hk
    obtain ⟨k, rfl⟩ : ∃ m, k = m + 1 := ⟨k - 1, by omega⟩
    simp only [spec_l01Begin.l0]
    rw [if_neg (by omega)]
    exact ⟨st, rfl⟩
  | succ d ih =>
    intro k i st hi hk
    obtain ⟨k, rfl⟩ : ∃ m, k = m + 1 := ⟨k - 1, by omega⟩
    simp only [spec_l01Begin.l0]
    rw [if_pos (by omega), if_pos (by omega), wr_succ (n := l.length) (by omega) (by omega)]
    exact ih k (i + 1) _ (by omega) (by omega)
theorem l01b_f {l : List Int} (hn : l.length ≤ 1048576) {k : Nat} (hk : l.length < k) : ∃ st, spec_l01Begin.f k l = some (0, st) := by
  unfold spec_l01Begin.f
  exact l01b_l l hn l 0 l.length k 0 _ (by omega) hk
theorem l01n_f {l : List Int} (hl : l.length ≤ 1048576) {p : Int} (st : Int) {n : Int} (hp : 0 ≤ p) (hn : 0 < n) (h2 : n ≤ 4611686018427387904) : ∃ r p' st', spec_l01Next.f l p st n = some (r, p', st') ∧ 0 ≤ r ∧ r < n ∧ 0 ≤ p' := by
  unfold spec_l01Next.f
  rw [if_neg (show ¬ n ≤ 0 by omega), u64_id (y := n) (by omega)]
  by_cases h : p < (l.length : Int)
  · rw [if_pos h, if_pos hp, if_neg (show ¬ n = 0 by omega)]
    have := mod_in (xor_nn (IntKind.u64.wrap (IntKind.u64.wrap (st * 6364136223846793005) + 1442695040888963407) / 8589934592) (IntKind.u64.wrap (rd l p))) hn h2
    exact ⟨_, _, _, rfl, this.1, this.2, by rw [wr64 (by omega)]; omega⟩
  · rw [if_neg h, if_neg (show ¬ n = 0 by omega)]
    have hq : 0 ≤ IntKind.u64.wrap (IntKind.u64.wrap (st * 6364136223846793005) + 1442695040888963407) / 8589934592 := by
      have := u64_nn (IntKind.u64.wrap (st * 6364136223846793005) + 1442695040888963407)
      omega
    have := mod_in hq hn h2
    exact ⟨_, _, _, rfl, this.1, this.2, hp⟩

/-! ### stretch -/

/-! ### encseg -/
theorem portOK_f (a : Int) : spec_l10PortOK.f a = some (decide (0 ≤ a ∧ a ≤ 65535)) := by
  unfold spec_l10PortOK.f
  rw [in_f]
  rfl
theorem isPort_f (a : Int) : impl_isPort.f a = some (decide (0 ≤ a ∧ a ≤ 65535)) := by
  unfold impl_isPort.f
  by_cases h : a ≥ 0
  · rw [if_pos h]; congr 1; rw [decide_eq_decide]; omega
  · rw [if_neg h]; congr 1; rw [eq_comm, decide_eq_false_iff_not]; omega
theorem isSeq_f (a : Int) : impl_isSeq.f a = some (decide (0 ≤ a ∧ a ≤ 4294967295)) := by
  unfold impl_isSeq.f
  by_cases h : a ≥ 0
  · rw [if_pos h]; congr 1; rw [decide_eq_decide]; omega
  · rw [if_neg h]; congr 1; rw [eq_comm, decide_eq_false_iff_not]; omega
def sOK (x : S60) : Bool := decide (0 ≤ x.f0 ∧ x.f0 ≤ 4294967295) && decide (0 ≤ x.f1 ∧ x.f1 ≤ 4294967295)
theorem rdS {l : List S60} {i : Nat} (h : i < l.length) : rd_T60 l (i : Int) = l[i] := by
  unfold rd_T60
  rw [Int.toNat_natCast, List.getD_eq_getElem?_getD, List.getElem?_eq_getElem h]
  rfl
theorem iOKl (s : List S60) (hn : s.length ≤ 1048576) (d : Nat) : ∀ (k i : Nat), i + d = s.length → d < k → impl_okSegment.l0 k s (s.length : Int) (i : Int) = some ((s.drop i).all sOK) := by
  induction d with
  | zero =>
    intro k i hi hk
    obtain ⟨k, rfl⟩ : ∃ m, k = m + 1 := ⟨k - 1, by omega⟩
    rw [impl_okSegment.l0, if_neg (by omega), List.drop_eq_nil_of_le (by omega)]
    rfl
  | succ d ih =>
    intro k i hi hk
    obtain ⟨k, rfl⟩ : ∃ m, k = m + 1 := ⟨k - 1, by omega⟩
    rw [impl_okSegment.l0, if_pos (by omega), if_pos (by omega), if_pos (by omega), rdS (by omega), wr_succ (n := s.length) (by omega) (by omega), ih k (i + 1) (by omega) (by omega), isSeq_f, isSeq_f, List.drop_eq_getElem_cons (show i < s.length by omega), List.all_cons]
    simp only [Option.bind_some, sOK]
    by_cases h1 : 0 ≤ (s[i]'(by omega)).f0 ∧ (s[i]'(by omega)).f0 ≤ 4294967295
    · by_cases h2 : 0 ≤ (s[i]'(by omega)).f1 ∧ (s[i]'(by omega)).f1 ≤ 4294967295 <;> simp [h1, h2]
    · simp [h1]
def okG0 (a0 a1 a2 a3 a4 a5 a6 : Int) (b7 : Bool) (a8 : Int) (n : Nat) : Prop := (0 ≤ a0 ∧ a0 ≤ 65535) ∧ (0 ≤ a1 ∧ a1 ≤ 65535) ∧ (0 ≤ a2 ∧ a2 ≤ 4294967295) ∧ (0 ≤ a3 ∧ a3 ≤ 4294967295) ∧ (0 ≤ a4 ∧ a4 ≤ 63) ∧ (0 ≤ a5 ∧ a5 ≤ 65535) ∧ (0 ≤ a6 ∧ a6 ≤ 65535) ∧ (0 ≤ a8 ∧ a8 ≤ 14) ∧ (b7 = true ∨ a8 = 0) ∧ n ≤ 3
instance (a0 a1 a2 a3 a4 a5 a6 : Int) (b7 : Bool) (a8 : Int) (n : Nat) : Decidable (okG0 a0 a1 a2 a3 a4 a5 a6 b7 a8 n) := by unfold okG0; exact inferInstance
def okG (a0 a1 a2 a3 a4 a5 a6 : Int) (b7 : Bool) (a8 : Int) (s : List S60) : Bool := decide (okG0 a0 a1 a2 a3 a4 a5 a6 b7 a8 s.length) && s.all sOK
theorem ite_f {p : Prop} [Decidable p] {x y : Option Bool} (hy : y = some false) (hx : p → x = some false) : (if p then x else y) = some false := by
  by_cases h : p
  · rw [if_pos h]; exact hx h
  · rw [if_neg h]; exact hy
theorem ite_g {p : Prop} [Decidable p] {x y : Option Bool} (hx : x = some false) (hy : ¬ p → y = some false) : (if p then x else y) = some false := by
  by_cases h : p
  · rw [if_pos h]; exact hx
  · rw [if_neg h]; exact hy h
theorem iOK_f (a0 a1 a2 a3 a4 a5 a6 : Int) (b7 : Bool) (a8 : Int) (b9 : Bool) {s : List S60} (p : List Int) (hs : s.length ≤ 1048576) {k : Nat} (hk : s.length + 2 ≤ k) : impl_okSegment.f k a0 a1 a2 a3 a4 a5 a6 b7 a8 b9 s p = some (okG a0 a1 a2 a3 a4 a5 a6 b7 a8 s) := by
  obtain ⟨k, rfl⟩ : ∃ m, k = m + 1 := ⟨k - 1, by omega⟩
  have hl := iOKl s hs s.length k 0 (by omega) (by omega)
  simp only [List.drop_zero] at hl
  have hj : ∀ c : Bool, impl_okSegment.j0 (k + 1) c a0 a1 a2 a3 a4 a5 a6 b7 a8 b9 s p = some (!c && s.all sOK) := by
    intro c
    rw [impl_okSegment.j0]
    cases c with
    | true => rfl
    | false => exact hl
  unfold impl_okSegment.f okG
  simp only [isPort_f, isSeq_f, Option.bind_some, hj, decide_eq_true_eq]
  by_cases h : okG0 a0 a1 a2 a3 a4 a5 a6 b7 a8 s.length
  · rw [decide_eq_true h]
    obtain ⟨h0, h1, h2, h3, h4, h5, h6, h8, h7, hn⟩ := h
    rw [if_pos h0, if_pos h1, if_pos h2, if_pos h3, if_neg (show ¬ a4 < 0 by omega), if_neg (show ¬ a4 > 63 by omega), if_pos h5, if_pos h6, if_neg (show ¬ a8 < 0 by omega), if_neg (show ¬ a8 > 14 by omega)]
    have hd : decide ((s.length : Int) > 3) = false := decide_eq_false (by omega)
    rw [hd]
    rcases h7 with h7 | h7
    · rw [if_pos h7]; rfl
    · rw [if_pos h7, ite_self]; rfl
  · rw [decide_eq_false h]
    show _ = some false
    refine ite_f rfl fun h0 => ite_f rfl fun h1 => ite_f rfl fun h2 => ite_f rfl fun h3 => ite_g rfl fun h4 => ite_g rfl fun h4' => ite_f rfl fun h5 => ite_f rfl fun h6 => ite_g rfl fun h8 => ite_g rfl fun h8' => ?_
    have last : (b7 = true ∨ a8 = 0) → some (!decide ((s.length : Int) > 3) && s.all sOK) = some false := by
      intro h7
      have hd : decide ((s.length : Int) > 3) = true := decide_eq_true (by
        rcases Nat.lt_or_ge 3 s.length with h9 | h9
        · omega
        · exact absurd (⟨h0, h1, h2, h3, by omega, h5, h6, by omega, h7, h9⟩ : okG0 a0 a1 a2 a3 a4 a5 a6 b7 a8 s.length) h)
      rw [hd]
      rfl
    by_cases h7 : b7 = true
    · rw [if_pos h7]
      exact last (.inl h7)
    · rw [if_neg h7]
      exact ite_f rfl fun h7' => last (.inr h7')
def gopt0 (a6 : Int) : List Int := if a6 = 0 then [] else [2, 4] ++ be 2 a6
def gopt1 (x : List Int) (b7 : Bool) (a8 : Int) : List Int := if b7 = true then x ++ [1, 3, 3, a8 % 256] else x
def gopt2 (x : List Int) (b9 : Bool) : List Int := if b9 = true then x ++ [1, 1, 4, 2] else x
def gopt3 (x : List Int) (n : Nat) : List Int := if (n : Int) > 0 then x ++ [1, 1, 5, (2 + 8 * (n : Int)) % 256] else x
def sbody : List S60 → List Int
  | [] => []
  | x :: r => be 4 x.f0 ++ be 4 x.f1 ++ sbody r
def gopt (a6 : Int) (b7 : Bool) (a8 : Int) (b9 : Bool) (s : List S60) : List Int := gopt3 (gopt2 (gopt1 (gopt0 a6) b7 a8) b9) s.length ++ sbody s
theorem gopt0_len (a6 : Int) : (gopt0 a6).length ≤ 4 := by unfold gopt0; split <;> simp [be_len]
theorem gopt1_len (x : List Int) (b7 : Bool) (a8 : Int) : (gopt1 x b7 a8).length ≤ x.length + 4 := by unfold gopt1; split <;> simp
theorem gopt2_len (x : List Int) (b9 : Bool) : (gopt2 x b9).length ≤ x.length + 4 := by unfold gopt2; split <;> simp
theorem gopt3_len (x : List Int) (n : Nat) : (gopt3 x n).length ≤ x.length + 4 := by unfold gopt3; split <;> simp
theorem sbody_len (s : List S60) : (sbody s).length = 8 * s.length := by
  induction s with
  | nil => rfl
  | cons x r ih => simp [sbody, be_len, ih]; omega
theorem gopt_len (a6 : Int) (b7 : Bool) (a8 : Int) (b9 : Bool) {s : List S60} (hs : s.length ≤ 3) : (gopt a6 b7 a8 b9 s).length ≤ 40 := by
  have h0 := gopt0_len a6
  have h1 := gopt1_len (gopt0 a6) b7 a8
  have h2 := gopt2_len (gopt1 (gopt0 a6) b7 a8) b9
  have h3 := gopt3_len (gopt2 (gopt1 (gopt0 a6) b7 a8) b9) s.length
  have h4 := sbody_len s
  unfold gopt
  rw [List.length_append]
  omega
theorem lit_bytes {a b c d : Int} (ha : 0 ≤ a ∧ a ≤ 255) (hb : 0 ≤ b ∧ b ≤ 255) (hc : 0 ≤ c ∧ c ≤ 255) (hd : 0 ≤ d ∧ d ≤ 255) : Bs [a, b, c, d] := by
  intro x hx
  simp only [List.mem_cons, List.not_mem_nil, or_false] at hx
  rcases hx with rfl | rfl | rfl | rfl <;> assumption
theorem sbody_bytes (s : List S60) : Bs (sbody s) := by
  induction s with
  | nil => intro x hx; cases hx
  | cons x r ih => exact Bs.append (Bs.append (be_bytes _ _) (be_bytes _ _)) ih
theorem gopt_bytes (a6 : Int) (b7 : Bool) (a8 : Int) (b9 : Bool) (s : List S60) : Bs (gopt a6 b7 a8 b9 s) := by
  have h0 : Bs (gopt0 a6) := by
    unfold gopt0
    split
    · intro x hx; cases hx
    · refine Bs.append ?_ (be_bytes _ _)
      intro x hx
      simp only [List.mem_cons, List.not_mem_nil, or_false] at hx
      rcases hx with rfl | rfl <;> omega
  have h1 : Bs (gopt1 (gopt0 a6) b7 a8) := by
    unfold gopt1
    split
    · exact Bs.append h0 (lit_bytes (by omega) (by omega) (by omega) (by omega))
    · exact h0
  have h2 : Bs (gopt2 (gopt1 (gopt0 a6) b7 a8) b9) := by
    unfold gopt2
    split
    · exact Bs.append h1 (lit_bytes (by omega) (by omega) (by omega) (by omega))
    · exact h1
  unfold gopt
  refine Bs.append ?_ (sbody_bytes s)
  unfold gopt3
  split
  · exact Bs.append h2 (lit_bytes (by omega) (by omega) (by omega) (by omega))
  · exact h2
def gseg (a0 a1 a2 a3 a4 a5 : Int) (o p : List Int) : List Int := be 2 a0 ++ be 2 a1 ++ be 4 a2 ++ be 4 a3 ++ [((20 + (o.length : Int)) / 4 * 16) % 256, a4 % 256] ++ be 2 a5 ++ [0, 0, 0, 0] ++ o ++ p
theorem gseg_len (a0 a1 a2 a3 a4 a5 : Int) (o p : List Int) : (gseg a0 a1 a2 a3 a4 a5 o p).length = 20 + o.length + p.length := by
  simp [gseg, be_len]
  omega
theorem gseg_bytes (a0 a1 a2 a3 a4 a5 : Int) {o p : List Int} (ho : Bs o) (hp : Bs p) : Bs (gseg a0 a1 a2 a3 a4 a5 o p) := by
  unfold gseg
  refine Bs.append (Bs.append (Bs.append (Bs.append (Bs.append (Bs.append (Bs.append (Bs.append (be_bytes _ _) (be_bytes _ _)) (be_bytes _ _)) (be_bytes _ _)) ?_) (be_bytes _ _)) (lit_bytes (by omega) (by omega) (by omega) (by omega))) ho) hp
  intro x hx
  simp only [List.mem_cons, List.not_mem_nil, or_false] at hx
  rcases hx with rfl | rfl <;> omega
def gsum (src dst : Int) (g : List Int) : Int := csum (fhead src dst 6 (g.length : Int) ++ g)
def gout (src dst : Int) (g : List Int) : List Int := (g.set (16 : Int).toNat ((gsum src dst g / 256) % 256)).set (17 : Int).toNat (gsum src dst g % 256)
theorem gout_len (src dst : Int) (g : List Int) : (gout src dst g).length = g.length := by simp [gout]
def gall (a0 a1 a2 a3 a4 a5 a6 : Int) (b7 : Bool) (a8 : Int) (b9 : Bool) (s : List S60) (p : List Int) (src dst : Int) : List Int × Int :=
  if okG a0 a1 a2 a3 a4 a5 a6 b7 a8 s = true ∧ (0 ≤ src ∧ src ≤ 4294967295) ∧ (0 ≤ dst ∧ dst ≤ 4294967295) then
    (if 20 + ((gopt a6 b7 a8 b9 s).length : Int) + (p.length : Int) > 65515 then ([], 7) else (gout src dst (gseg a0 a1 a2 a3 a4 a5 (gopt a6 b7 a8 b9 s) p), 0))
  else ([], 1)
theorem gall_len (a0 a1 a2 a3 a4 a5 a6 : Int) (b7 : Bool) (a8 : Int) (b9 : Bool) (s : List S60) (p : List Int) (src dst : Int) : (gall a0 a1 a2 a3 a4 a5 a6 b7 a8 b9 s p src dst).1.length ≤ 65535 := by
  unfold gall
  split
  · split
    · simp
    · simp only [gout_len, gseg_len]
      omega
  · simp
theorem okG_len {a0 a1 a2 a3 a4 a5 a6 : Int} {b7 : Bool} {a8 : Int} {s : List S60} (h : okG a0 a1 a2 a3 a4 a5 a6 b7 a8 s = true) : s.length ≤ 3 := by
  unfold okG at h
  rw [Bool.and_eq_true] at h
  have := of_decide_eq_true h.1
  unfold okG0 at this
  exact this.2.2.2.2.2.2.2.2.2
theorem gseg_as (a0 a1 a2 a3 a4 a5 : Int) (o p : List Int) : be 2 a0 ++ be 2 a1 ++ be 4 a2 ++ be 4 a3 ++ [((20 + (o.length : Int)) / 4 * 16) % 256, a4 % 256] ++ be 2 a5 ++ [0, 0, 0, 0] ++ (o ++ p) = gseg a0 a1 a2 a3 a4 a5 o p := by
  unfold gseg
  exact (List.append_assoc _ _ _).symm
theorem gout_def (src dst : Int) (g : List Int) : gout src dst g = (g.set (16 : Int).toNat ((csum (fhead src dst 6 (g.length : Int) ++ g) / 256) % 256)).set (17 : Int).toNat (csum (fhead src dst 6 (g.length : Int) ++ g) % 256) := by
  unfold gout gsum
  rfl
theorem tail_f (g : List Int) (c : Int) (h : 18 ≤ g.length) : (if 16 < (g.length : Int) then (if 17 < (g.length : Int) then (some (((g.set (16 : Int).toNat ((c / 256) % 256)).set (17 : Int).toNat ((c) % 256)), (0 : Int))) else (none)) else (none)) = some ((g.set (16 : Int).toNat ((c / 256) % 256)).set (17 : Int).toNat (c % 256), (0 : Int)) := by
  rw [if_pos (show (16 : Int) < (g.length : Int) by omega), if_pos (show (17 : Int) < (g.length : Int) by omega)]
theorem iseg_5 (a0 a1 a2 a3 a4 a5 a6 : Int) (b7 : Bool) (a8 : Int) (b9 : Bool) (s : List S60) {o p : List Int} (src dst : Int) (ho : o.length ≤ 40) (hob : Bs o) (hp : p.length ≤ 1048576) (hb : Bs p) {k : Nat} (hk : p.length + 400 ≤ k) : impl_EncodeSegment.j5 (k + 1) src dst o a0 a1 a2 a3 a4 a5 a6 b7 a8 b9 s p = some (if 20 + (o.length : Int) + (p.length : Int) > 65515 then ([], 7) else (gout src dst (gseg a0 a1 a2 a3 a4 a5 o p), 0)) := by
  have hl := gseg_len a0 a1 a2 a3 a4 a5 o p
  rw [impl_EncodeSegment.j5, wr64 (a := 20 + (o.length : Int)) (by omega), wr64 (a := 20 + (o.length : Int) + (p.length : Int)) (by omega), td_pos (a := 20 + (o.length : Int)) 4 (by omega), wr64 (a := (20 + (o.length : Int)) / 4) (by omega), wr64 (a := (20 + (o.length : Int)) / 4 * 16) (by omega)]
  by_cases h : 20 + (o.length : Int) + (p.length : Int) > 65515
  · rw [if_pos h, if_pos h]
  · rw [if_neg h, if_neg h]
    have e2 : ∀ (l : List Int) v, l.length ≤ 1000 → impl_put.f k l 2 v = some (l ++ be 2 v) := fun l v hl => iput_f (n := 2) (by omega) (by omega) (by omega)
    have e4 : ∀ (l : List Int) v, l.length ≤ 1000 → impl_put.f k l 4 v = some (l ++ be 4 v) := fun l v hl => iput_f (n := 4) (by omega) (by omega) (by omega)
    rw [e2 _ _ (by simp)]
    simp only [Option.bind_some, List.nil_append]
    rw [e2 _ _ (by simp [be_len])]
    simp only [Option.bind_some]
    rw [e4 _ _ (by simp [be_len])]
    simp only [Option.bind_some]
    rw [e4 _ _ (by simp [be_len])]
    simp only [Option.bind_some]
    rw [if_pos (by simp [be_len]), e2 _ _ (by simp [be_len])]
    simp only [Option.bind_some]
    rw [if_pos (by simp [be_len]), if_pos (by simp [be_len]; omega), if_pos (by simp [be_len]; omega)]
    rw [show be 2 a0 ++ be 2 a1 ++ be 4 a2 ++ be 4 a3 ++ [((20 + (o.length : Int)) / 4 * 16) % 256, a4 % 256] ++ be 2 a5 ++ [0, 0, 0, 0] ++ o ++ p = gseg a0 a1 a2 a3 a4 a5 o p from rfl, ifh_f _ _ _ _ (by omega)]
    simp only [Option.bind_some]
    rw [if_pos (by rw [fhead_len]; omega), icheck_f (Bs.append (fhead_bytes _ _ _ _) (gseg_bytes _ _ _ _ _ _ hob hb)) (by rw [List.length_append, fhead_len]; omega) (by rw [List.length_append, fhead_len]; omega)]
    simp only [Option.bind_some]
    rw [if_pos (by omega), if_pos (by omega)]
    rfl
theorem iseg_l (a0 a1 a2 a3 a4 a5 a6 : Int) (b7 : Bool) (a8 : Int) (b9 : Bool) (s : List S60) (p : List Int) (src dst : Int) (hn : s.length ≤ 3) {K : Nat} (hK : 20 ≤ K) (d : Nat) : ∀ (i : Nat) (x : List Int), i + d = s.length → x.length + 8 * d ≤ 100 → impl_EncodeSegment.l0 (K + d + 1) src dst x s (s.length : Int) (i : Int) a0 a1 a2 a3 a4 a5 a6 b7 a8 b9 s p = impl_EncodeSegment.j5 K src dst (x ++ sbody (s.drop i)) a0 a1 a2 a3 a4 a5 a6 b7 a8 b9 s p := by
  induction d with
  | zero =>
    intro i x hi hx
    rw [impl_EncodeSegment.l0, if_neg (by omega), List.drop_eq_nil_of_le (by omega)]
    simp [sbody]
  | succ d ih =>
    intro i x hi hx
    have e4 : ∀ (l : List Int) v, l.length ≤ 1000 → impl_put.f (K + (d + 1)) l 4 v = some (l ++ be 4 v) := fun l v hl => iput_f (n := 4) (by omega) (by omega) (by omega)
    rw [impl_EncodeSegment.l0, if_pos (by omega), if_pos (by omega), if_pos (by omega), rdS (by omega), wr_succ (n := s.length) (by omega) (by omega), e4 _ _ (by omega)]
    simp only [Option.bind_some]
    rw [e4 _ _ (by simp [be_len]; omega)]
    simp only [Option.bind_some]
    rw [show K + (d + 1) = K + d + 1 from by omega, ih (i + 1) _ (by omega) (by simp [be_len]; omega), List.drop_eq_getElem_cons (show i < s.length by omega), sbody]
    simp only [List.append_assoc]
theorem iseg_j (a0 a1 a2 a3 a4 a5 a6 : Int) (b7 : Bool) (a8 : Int) (b9 : Bool) {s : List S60} {p : List Int} (src dst : Int) (hn : s.length ≤ 3) (hp : p.length ≤ 1048576) (hb : Bs p) {k : Nat} (hk : p.length + 420 ≤ k) : impl_EncodeSegment.j0 (k + 1 + 1 + 1 + 1) src dst false a0 a1 a2 a3 a4 a5 a6 b7 a8 b9 s p = some (if 20 + ((gopt a6 b7 a8 b9 s).length : Int) + (p.length : Int) > 65515 then ([], 7) else (gout src dst (gseg a0 a1 a2 a3 a4 a5 (gopt a6 b7 a8 b9 s) p), 0)) := by
  have ho := gopt_len a6 b7 a8 b9 hn
  have hob := gopt_bytes a6 b7 a8 b9 s
  have fin : ∀ k', p.length + 401 ≤ k' → ∀ x, x = gopt a6 b7 a8 b9 s → impl_EncodeSegment.j5 k' src dst x a0 a1 a2 a3 a4 a5 a6 b7 a8 b9 s p = some (if 20 + ((gopt a6 b7 a8 b9 s).length : Int) + (p.length : Int) > 65515 then ([], 7) else (gout src dst (gseg a0 a1 a2 a3 a4 a5 (gopt a6 b7 a8 b9 s) p), 0)) := by
    intro k' hk' x hx
    subst hx
    obtain ⟨k', rfl⟩ : ∃ m, k' = m + 1 := ⟨k' - 1, by omega⟩
    exact iseg_5 a0 a1 a2 a3 a4 a5 a6 b7 a8 b9 s src dst ho hob hp hb (by omega)
  have j3 : ∀ x : List Int, x.length ≤ 12 → gopt3 x s.length ++ sbody s = gopt a6 b7 a8 b9 s → impl_EncodeSegment.j3 (k + 1) src dst x a0 a1 a2 a3 a4 a5 a6 b7 a8 b9 s p = some (if 20 + ((gopt a6 b7 a8 b9 s).length : Int) + (p.length : Int) > 65515 then ([], 7) else (gout src dst (gseg a0 a1 a2 a3 a4 a5 (gopt a6 b7 a8 b9 s) p), 0)) := by
    intro x hx hg
    unfold gopt3 at hg
    rw [impl_EncodeSegment.j3, wr64 (a := 8 * (s.length : Int)) (by omega), wr64 (a := 8 * (s.length : Int) + 2) (by omega), show 8 * (s.length : Int) + 2 = 2 + 8 * (s.length : Int) from by omega]
    by_cases h : (s.length : Int) > 0
    · rw [if_pos h] at hg
      rw [if_pos h]
      simp only [Option.bind_some]
      rw [if_pos (by simp; omega)]
      obtain ⟨K, rfl⟩ : ∃ K, k = K + s.length + 1 := ⟨k - s.length - 1, by omega⟩
      refine (iseg_l a0 a1 a2 a3 a4 a5 a6 b7 a8 b9 s p src dst hn (K := K) (by omega) s.length 0 _ (by omega) (by simp; omega)).trans ?_
      exact fin K (by omega) _ hg
    · rw [if_neg h] at hg
      rw [if_neg h]
      refine fin k (by omega) _ ?_
      rw [← hg, show s = [] from List.length_eq_zero_iff.1 (by omega)]
      simp [sbody]
  have j2 : ∀ x : List Int, x.length ≤ 8 → gopt3 (gopt2 x b9) s.length ++ sbody s = gopt a6 b7 a8 b9 s → impl_EncodeSegment.j2 (k + 1 + 1) src dst x a0 a1 a2 a3 a4 a5 a6 b7 a8 b9 s p = some (if 20 + ((gopt a6 b7 a8 b9 s).length : Int) + (p.length : Int) > 65515 then ([], 7) else (gout src dst (gseg a0 a1 a2 a3 a4 a5 (gopt a6 b7 a8 b9 s) p), 0)) := by
    intro x hx hg
    unfold gopt2 at hg
    rw [impl_EncodeSegment.j2]
    by_cases h : b9 = true
    · rw [if_pos h] at hg
      rw [if_pos h]
      simp only [Option.bind_some]
      rw [if_pos (by simp; omega)]
      exact j3 _ (by simp; omega) hg
    · rw [if_neg h] at hg
      rw [if_neg h]
      exact j3 _ (by omega) hg
  have j1 : ∀ x : List Int, x.length ≤ 4 → gopt3 (gopt2 (gopt1 x b7 a8) b9) s.length ++ sbody s = gopt a6 b7 a8 b9 s → impl_EncodeSegment.j1 (k + 1 + 1 + 1) src dst x a0 a1 a2 a3 a4 a5 a6 b7 a8 b9 s p = some (if 20 + ((gopt a6 b7 a8 b9 s).length : Int) + (p.length : Int) > 65515 then ([], 7) else (gout src dst (gseg a0 a1 a2 a3 a4 a5 (gopt a6 b7 a8 b9 s) p), 0)) := by
    intro x hx hg
    unfold gopt1 at hg
    rw [impl_EncodeSegment.j1]
    by_cases h : b7 = true
    · rw [if_pos h] at hg
      rw [if_pos h]
      simp only [Option.bind_some]
      rw [if_pos (by simp; omega)]
      exact j2 _ (by simp; omega) hg
    · rw [if_neg h] at hg
      rw [if_neg h]
      exact j2 _ (by omega) hg
  have hg : gopt3 (gopt2 (gopt1 (gopt0 a6) b7 a8) b9) s.length ++ sbody s = gopt a6 b7 a8 b9 s := rfl
  unfold gopt0 at hg
  rw [impl_EncodeSegment.j0, if_neg (by simp)]
  by_cases h : a6 = 0
  · rw [if_pos h] at hg
    rw [if_pos h]
    exact j1 [] (by simp) hg
  · rw [if_neg h] at hg
    rw [if_neg h]
    simp only [Option.bind_some, List.nil_append]
    rw [if_pos (by simp), show impl_put.f (k + 1 + 1 + 1) [2, 4] 2 a6 = some ([2, 4] ++ be 2 a6) from iput_f (n := 2) (by omega) (by simp) (by omega)]
    simp only [Option.bind_some]
    exact j1 _ (by simp [be_len]) hg

/-! ### udpe -/
def ubody (p q : Int) (l : List Int) : List Int := be 2 p ++ be 2 q ++ be 2 (8 + (l.length : Int)) ++ [0, 0] ++ l
theorem ubody_len (p q : Int) (l : List Int) : (ubody p q l).length = 8 + l.length := by simp [ubody, be_len]; omega
theorem ubody_bytes (p q : Int) {l : List Int} (h : Bs l) : Bs (ubody p q l) := by
  unfold ubody
  refine Bs.append (Bs.append (Bs.append (Bs.append (be_bytes _ _) (be_bytes _ _)) (be_bytes _ _)) ?_) h
  intro x hx
  simp only [List.mem_cons, List.not_mem_nil, or_false] at hx
  rcases hx with rfl | rfl <;> omega
def uout (s d p q : Int) (l : List Int) : List Int × Int :=
  if csum (fhead s d 17 (8 + (l.length : Int)) ++ ubody p q l) = 0 then (((ubody p q l).set (6 : Int).toNat (65535 / 256)).set (7 : Int).toNat ((65535) % 256), 0)
  else (((ubody p q l).set (6 : Int).toNat ((csum (fhead s d 17 (8 + (l.length : Int)) ++ ubody p q l) / 256) % 256)).set (7 : Int).toNat ((csum (fhead s d 17 (8 + (l.length : Int)) ++ ubody p q l)) % 256), 0)
theorem uout_len (s d p q : Int) (l : List Int) : (uout s d p q l).1.length = 8 + l.length := by
  unfold uout
  split <;> simp [ubody_len]
theorem udpe_spec {l : List Int} (hb : Bs l) (hn : l.length ≤ 65507) (s d p q : Int) {k : Nat} (hk : l.length + 100 < k) : spec_EncodeUdp.j0 (k + 1) s d false p q l = some (uout s d p q l) := by
  have hl := ubody_len p q l
  simp only [spec_EncodeUdp.j0, Bool.false_eq_true, if_false]
  rw [if_neg (show ¬ ((l.length : Int) > 65507) by omega), wr64 (by omega), show (2 : Int) = ((2 : Nat) : Int) from rfl, sput_f (by omega) (by omega), sput_f (by omega) (by omega), sput_f (by omega) (by omega)]
  simp only [Option.bind_some]
  rw [join_f (by simp [be_len]) (by simp [be_len]) (by simp [be_len]; omega) (by simp [be_len]; omega)]
  simp only [Option.bind_some]
  rw [join_f (by simp [be_len]) (by simp [be_len]) (by simp [be_len]; omega) (by simp [be_len]; omega)]
  simp only [Option.bind_some]
  rw [join_f (by simp [be_len]) (by simp) (by simp [be_len]; omega) (by simp; omega)]
  simp only [Option.bind_some]
  rw [join_f (by simp [be_len]) (by omega) (by simp [be_len]; omega) (by omega)]
  simp only [Option.bind_some]
  rw [show be 2 p ++ be 2 q ++ be 2 (8 + (l.length : Int)) ++ [0, 0] ++ l = ubody p q l from rfl, l10_f (ubody_bytes p q hb) (by omega) _ _ _ (by omega), hl, show ((8 + l.length : Nat) : Int) = 8 + (l.length : Int) from by omega]
  simp only [Option.bind_some]
  rw [if_pos (show (6 : Int) < 8 + (l.length : Int) by omega), if_pos (show (7 : Int) < 8 + (l.length : Int) by omega)]
  unfold uout
  split
  · rfl
  · rw [if_pos (show (6 : Int) < 8 + (l.length : Int) by omega), if_pos (show (7 : Int) < 8 + (l.length : Int) by omega)]
theorem udpe_impl {l : List Int} (hb : Bs l) (hn : l.length ≤ 65507) (s d p q : Int) {k : Nat} (hk : l.length + 100 < k) : impl_EncodeUdp.j0 (k + 1) s d false p q l = some (uout s d p q l) := by
  have hl := ubody_len p q l
  have hfl := fhead_len s d 17 (8 + (l.length : Int))
  simp only [impl_EncodeUdp.j0, Bool.false_eq_true, if_false]
  rw [if_neg (show ¬ ((l.length : Int) > 65507) by omega), wr64 (by omega), show (2 : Int) = ((2 : Nat) : Int) from rfl, iput_f (by omega) (by simp) (by omega)]
  simp only [Option.bind_some, List.nil_append]
  rw [iput_f (by omega) (by simp [be_len]) (by omega)]
  simp only [Option.bind_some]
  rw [iput_f (by omega) (by simp [be_len]) (by omega)]
  simp only [Option.bind_some]
  rw [if_pos (by simp [be_len]), if_pos (by simp [be_len]; omega), show be 2 p ++ be 2 q ++ be 2 (8 + (l.length : Int)) ++ [0, 0] ++ l = ubody p q l from rfl, ifh_f _ _ _ _ (by omega)]
  simp only [Option.bind_some]
  rw [if_pos (show (fhead s d 17 (8 + (l.length : Int))).length + (ubody p q l).length < 140737488355328 by omega), icheck_f ((fhead_bytes _ _ _ _).append (ubody_bytes p q hb)) (by simp; omega) (by simp; omega), hl, show ((8 + l.length : Nat) : Int) = 8 + (l.length : Int) from by omega]
  simp only [Option.bind_some]
  rw [if_pos (show (6 : Int) < 8 + (l.length : Int) by omega), if_pos (show (7 : Int) < 8 + (l.length : Int) by omega)]
  unfold uout
  split
  · rfl
  · rw [if_pos (show (6 : Int) < 8 + (l.length : Int) by omega), if_pos (show (7 : Int) < 8 + (l.length : Int) by omega)]
def udok (p q s d : Int) : Prop := (0 ≤ p ∧ p ≤ 65535) ∧ (0 ≤ q ∧ q ≤ 65535) ∧ (0 ≤ s ∧ s ≤ 4294967295) ∧ (0 ≤ d ∧ d ≤ 4294967295)
instance (p q s d : Int) : Decidable (udok p q s d) := by unfold udok; exact inferInstance
def gudp (p q : Int) (l : List Int) (s d : Int) : List Int × Int := if udok p q s d then (if (l.length : Int) > 65507 then ([], 7) else uout s d p q l) else ([], 1)
theorem udp_f {l : List Int} (hb : Bs l) (hn : l.length ≤ 1048576) (p q s d : Int) {k : Nat} (hk : l.length + 101 < k) : spec_EncodeUdp.f k p q l s d = some (gudp p q l s d) ∧ impl_EncodeUdp.f k p q l s d = some (gudp p q l s d) := by
  obtain ⟨k, rfl⟩ : ∃ m, k = m + 1 := ⟨k - 1, by omega⟩
  have bad : spec_EncodeUdp.j0 (k + 1) s d true p q l = some ([], 1) ∧ impl_EncodeUdp.j0 (k + 1) s d true p q l = some ([], 1) := by
    simp [spec_EncodeUdp.j0, impl_EncodeUdp.j0]
  unfold spec_EncodeUdp.f impl_EncodeUdp.f gudp
  simp only [portOK_f, isPort_f, addrOK_f, isAddr_f, Option.bind_some]
  by_cases hg : udok p q s d
  · rw [if_pos hg]
    obtain ⟨h1, h2, h3, h4⟩ := hg
    simp only [h1, h2, h3, h4, and_self, decide_true, if_true, Bool.not_true]
    by_cases h8 : (l.length : Int) > 65507
    · simp only [spec_EncodeUdp.j0, impl_EncodeUdp.j0, Bool.false_eq_true, if_false]
      rw [if_pos h8, if_pos h8, if_pos h8]
      exact ⟨rfl, rfl⟩
    · rw [if_neg h8]
      exact ⟨udpe_spec hb (by omega) _ _ _ _ (by omega), udpe_impl hb (by omega) _ _ _ _ (by omega)⟩
  · rw [if_neg hg]
    by_cases h1 : 0 ≤ p ∧ p ≤ 65535
    · by_cases h2 : 0 ≤ q ∧ q ≤ 65535
      · by_cases h3 : 0 ≤ s ∧ s ≤ 4294967295
        · have h4 : ¬ (0 ≤ d ∧ d ≤ 4294967295) := fun h => hg ⟨h1, h2, h3, h⟩
          simp only [h1, h2, h3, h4, and_self, decide_true, decide_false, if_true, Bool.not_false]
          exact bad
        · simp only [h1, h2, h3, and_self, decide_true, decide_false, if_true, Bool.false_eq_true, if_false]
          exact bad
      · simp only [h1, h2, and_self, decide_true, decide_false, if_true, Bool.false_eq_true, if_false]
        exact bad
    · simp only [h1, decide_false, Bool.false_eq_true, if_false]
      exact bad
theorem uout_ok (s d p q : Int) (l : List Int) : (uout s d p q l).2 = 0 := by unfold uout; split <;> rfl
/-- the sum that is written: never 0 -/
def usum (s d p q : Int) (l : List Int) : Int := if csum (fhead s d 17 (8 + (l.length : Int)) ++ ubody p q l) = 0 then 65535 else csum (fhead s d 17 (8 + (l.length : Int)) ++ ubody p q l)
theorem uout_as (s d p q : Int) (l : List Int) : (uout s d p q l).1 = ((ubody p q l).set 6 (usum s d p q l / 256 % 256)).set 7 (usum s d p q l % 256) := by
  unfold uout usum
  split <;> rfl

/-! ### the law -/
theorem flip8 : ∀ x : Fin 256, ∀ j : Fin 8, (0 ≤ Go.bits .xor .u8 (x.val : Int) (shl .u8 1 (IntKind.u64.wrap (j.val : Int))) ∧ Go.bits .xor .u8 (x.val : Int) (shl .u8 1 (IntKind.u64.wrap (j.val : Int))) ≤ 255) ∧ Go.bits .xor .u8 (x.val : Int) (shl .u8 1 (IntKind.u64.wrap (j.val : Int))) ≠ (x.val : Int) := by decide +kernel
theorem flip_f {x j : Int} (hx : 0 ≤ x ∧ x ≤ 255) (hj : 0 ≤ j ∧ j < 8) : (0 ≤ Go.bits .xor .u8 x (shl .u8 1 (IntKind.u64.wrap j)) ∧ Go.bits .xor .u8 x (shl .u8 1 (IntKind.u64.wrap j)) ≤ 255) ∧ Go.bits .xor .u8 x (shl .u8 1 (IntKind.u64.wrap j)) ≠ x := by
  have h := flip8 ⟨x.toNat, by omega⟩ ⟨j.toNat, by omega⟩
  simp only [Int.toNat_of_nonneg hx.1, Int.toNat_of_nonneg hj.1] at h
  exact h
theorem fold_full {W : Int} (h0 : 0 ≤ W) (h : fold W = 65535) : W % 65535 = 0 := by
  have := fold_mod h0
  omega
theorem fold_not {W e : Int} (h0 : W % 65535 = 0) (h1 : 0 ≤ W + e) (he : (1 ≤ e ∧ e ≤ 65280) ∨ (-65280 ≤ e ∧ e ≤ -1)) : fold (W + e) ≠ 65535 := by
  intro h
  have := fold_full h1 h
  omega
theorem bset {l : List Int} (h : Bs l) (i : Nat) {x : Int} (hx : 0 ≤ x ∧ x ≤ 255) : Bs (l.set i x) := by
  intro y hy
  rcases List.mem_or_eq_of_mem_set hy with h1 | h1
  · exact h y h1
  · rw [h1]; exact hx
theorem wt_or (b : Bool) (i : Nat) : wt b i = 256 ∨ wt b i = 1 := by unfold wt; split <;> simp
/-- one byte that differs turns a right sum into a wrong one -/
theorem flip_sum {h b : List Int} (hh : Bs h) (h2 : h.length % 2 = 0) (hb : Bs b) (hz : csum (h ++ b) = 0) {i : Nat} (hi : i < b.length) {y : Int} (hy : 0 ≤ y ∧ y ≤ 255) (hne : y ≠ b[i]) : csum (h ++ b.set i y) ≠ 0 := by
  have hB := bset hb i hy
  have p1 := (wsp_bd _ true (hh.append hB)).1
  have p0 := (wsp_bd _ true (hh.append hb)).1
  have hb0 := hb.get hi
  unfold csum at hz ⊢
  have e1 : wsp true (h ++ b.set i y) = wsp true (h ++ b) + (y - b[i]) * wt true i := by
    rw [wsp_app, wsp_app, if_pos h2, wsp_set _ _ _ _ hi]
    omega
  have f0 := fold_full p0 (by omega)
  rw [e1] at p1 ⊢
  have := fold_not (e := (y - b[i]) * wt true i) f0 p1 (by
    rcases wt_or true i with h | h <;> rw [h] <;> omega)
  omega
/-- a sum that is written into its place makes the whole right -/
theorem put_sum {h g : List Int} (hh : Bs h) (h2 : h.length % 2 = 0) (hg : Bs g) {i : Nat} (hi : i + 1 < g.length) (hev : i % 2 = 0) (h0 : g[i] = 0) (h1 : g[i + 1] = 0) (hpos : 0 < wsp true h) {c : Int} (hc : c = csum (h ++ g) ∨ (csum (h ++ g) = 0 ∧ c = 65535)) : csum (h ++ (g.set i (c / 256 % 256)).set (i + 1) (c % 256)) = 0 := by
  have pg := (wsp_bd g true hg).1
  have hcb := csum_le (hh.append hg)
  have hS : wsp true (h ++ g) = wsp true h + wsp true g := by rw [wsp_app, if_pos h2]
  have e2 : ((g.set i (c / 256 % 256)).set (i + 1) (c % 256))  = ((g.set i (c / 256 % 256)).set (i + 1) (c % 256)) := rfl
  have w0 : wt true i = 256 := by unfold wt; rw [hev]; rfl
  have w1 : wt true (i + 1) = 1 := by unfold wt; rw [show (i + 1) % 2 = 1 from by omega]; rfl
  have e1 : wsp true (h ++ (g.set i (c / 256 % 256)).set (i + 1) (c % 256)) = wsp true h + wsp true g + c := by
    rw [wsp_app, if_pos h2, wsp_set _ _ (i + 1) _ (by simpa using hi), wsp_set _ _ i _ (by omega), w0, w1, List.getElem_set_ne (by omega), h0, h1]
    omega
  unfold csum at hc hcb ⊢
  rw [e1]
  rw [hS] at hc hcb
  generalize hW : wsp true h + wsp true g = W at *
  have m := fold_mod (x := W) (by omega)
  have m2 := fold_mod (x := W + c) (by omega)
  have b2 := fold_le (W + c) (by omega)
  have n2 : fold (W + c) ≠ 0 := by unfold fold; rw [if_neg (by omega)]; omega
  omega
theorem fhead_pos (a b c d : Int) (hc : 1 ≤ c ∧ c ≤ 255) : 0 < wsp true (fhead a b c d) := by
  have b1 : Bs (be 4 a ++ be 4 b) := (be_bytes _ _).append (be_bytes _ _)
  have p1 := (wsp_bd _ true b1).1
  have p2 := (wsp_bd _ true (be_bytes 2 d)).1
  have e : wsp true (fhead a b c d) = wsp true (be 4 a ++ be 4 b) + (c % 256) + wsp true (be 2 d) := by
    unfold fhead
    rw [wsp_app, wsp_app, if_pos (by simp [be_len]), if_pos (by simp [be_len])]
    simp [wsp]
  omega
theorem fhead_even (a b c d : Int) : (fhead a b c d).length % 2 = 0 := by rw [fhead_len]
/-! ### datagrams -/
theorem usum_bd (s d p q : Int) {l : List Int} (hb : Bs l) : 1 ≤ usum s d p q l ∧ usum s d p q l ≤ 65535 := by
  have := csum_le ((fhead_bytes s d 17 (8 + (l.length : Int))).append (ubody_bytes p q hb))
  unfold usum
  split <;> omega
theorem ubody_as (p q : Int) (l : List Int) : ubody p q l = p / 256 % 256 :: p % 256 :: q / 256 % 256 :: q % 256 :: (8 + (l.length : Int)) / 256 % 256 :: (8 + (l.length : Int)) % 256 :: 0 :: 0 :: l := by
  simp [ubody, be]
theorem uout_form (s d p q : Int) (l : List Int) : (uout s d p q l).1 = p / 256 % 256 :: p % 256 :: q / 256 % 256 :: q % 256 :: (8 + (l.length : Int)) / 256 % 256 :: (8 + (l.length : Int)) % 256 :: usum s d p q l / 256 % 256 :: usum s d p q l % 256 :: l := by
  rw [uout_as, ubody_as]
  rfl
theorem uout_sum (s d p q : Int) {l : List Int} (hb : Bs l) : csum (fhead s d 17 (8 + (l.length : Int)) ++ (uout s d p q l).1) = 0 := by
  have hl := ubody_len p q l
  rw [uout_as]
  refine put_sum (fhead_bytes _ _ _ _) (fhead_even _ _ _ _) (ubody_bytes p q hb) (i := 6) (by omega) (by decide) ?_ ?_ (fhead_pos _ _ _ _ (by decide)) ?_
  · simp only [ubody_as]; rfl
  · simp only [ubody_as]; rfl
  · unfold usum
    split
    · right; exact ⟨by assumption, rfl⟩
    · left; rfl
theorem uout_bytes (s d p q : Int) {l : List Int} (hb : Bs l) : Bs (uout s d p q l).1 := by
  rw [uout_as]
  exact bset (bset (ubody_bytes p q hb) _ (by omega)) _ (by omega)
def udres (b : List Int) (s d : Int) : Int × Int × List Int × Int :=
  if numa 0 ((b.take 6).drop 4) = (b.length : Int) then
    (if numa 0 ((b.take 8).drop 6) ≠ 0 ∧ csum (fhead s d 17 (b.length : Int) ++ b) ≠ 0 then (0, 0, [], 3) else (numa 0 (b.take 2), numa 0 ((b.take 4).drop 2), b.drop 8, 0))
  else (0, 0, [], 5)
theorem mid_len (l : List Int) (i j : Nat) : ((l.take i).drop j).length ≤ i - j := by rw [List.length_drop, List.length_take]; omega
theorem Bs.mid {l : List Int} (h : Bs l) (i j : Nat) : Bs ((l.take i).drop j) := (h.take i).drop j
theorem udec_f {b : List Int} (hb : Bs b) (hn : b.length ≤ 65535) (h8 : 8 ≤ b.length) {s d : Int} (hs : 0 ≤ s ∧ s ≤ 4294967295) (hd : 0 ≤ d ∧ d ≤ 4294967295) {k : Nat} (hk : b.length + 100 ≤ k) : impl_DecodeUdp.f k b s d = some (udres b s d) := by
  obtain ⟨k, rfl⟩ : ∃ m, k = m + 1 + 1 := ⟨k - 2, by omega⟩
  have m0 : (b.take 2).length ≤ 2 := by rw [List.length_take]; omega
  have m1 := mid_len b 4 2
  have m2 := mid_len b 6 4
  have m3 := mid_len b 8 6
  have md : (b.drop 8).length ≤ b.length := by rw [List.length_drop]; omega
  have j1 : ∀ c : Bool, impl_DecodeUdp.j1 (k + 1) b c = some (if c = true then (0, 0, [], 3) else (numa 0 (b.take 2), numa 0 ((b.take 4).drop 2), b.drop 8, 0)) := by
    intro c
    rw [impl_DecodeUdp.j1]
    cases c with
    | true => rfl
    | false =>
      rw [if_neg (by decide), if_pos (by omega), iget_f (hb.take 2) (by omega) (by omega), Option.bind_some, if_pos (by decide), if_pos (by omega), iget_f (hb.mid 4 2) (by omega) (by omega), Option.bind_some, if_pos (by omega), dup_f (by omega), Option.bind_some]
      rfl
  unfold impl_DecodeUdp.f udres
  simp only [isAddr_f, Option.bind_some, hs, hd, and_self, decide_true, if_true, Bool.not_true]
  rw [impl_DecodeUdp.j0, if_neg (by decide), if_neg (show ¬ (b.length : Int) < 8 by omega), if_pos (by decide), if_pos (by omega), iget_f (hb.mid 6 4) (by omega) (by omega), Option.bind_some]
  by_cases h4 : numa 0 ((b.take 6).drop 4) = (b.length : Int)
  · rw [if_pos h4, if_pos h4, if_pos (by decide), if_pos (by omega), iget_f (hb.mid 8 6) (by omega) (by omega), Option.bind_some]
    by_cases h6 : numa 0 ((b.take 8).drop 6) = 0
    · rw [if_pos h6, j1, if_neg (by decide), if_neg (fun h => h.1 h6)]
    · rw [if_neg h6, ifh_f _ _ _ _ (by omega), Option.bind_some, if_pos (by rw [fhead_len]; omega), icheck_f ((fhead_bytes _ _ _ _).append hb) (by rw [List.length_append, fhead_len]; omega) (by rw [List.length_append, fhead_len]; omega), Option.bind_some, j1]
      by_cases hz : csum (fhead s d 17 (b.length : Int) ++ b) = 0
      · rw [if_neg (by rw [hz]; decide), if_neg (fun h => h.2 hz)]
      · rw [if_pos (bne_iff_ne.mpr hz), if_pos ⟨h6, hz⟩]
  · rw [if_neg h4, if_neg h4]
theorem numa2 (a b : Int) : numa 0 [a, b] = a * 256 + b := by simp [numa]
/-- a datagram with one byte turned is refused or the same -/
theorem udp_turned {s d p q : Int} {l : List Int} (hb : Bs l) (hn : l.length ≤ 65507) (hp : 0 ≤ p ∧ p ≤ 65535) (hq : 0 ≤ q ∧ q ≤ 65535) {i : Nat} (hi : i < (uout s d p q l).1.length) {y : Int} (hy : 0 ≤ y ∧ y ≤ 255) (hne : y ≠ (uout s d p q l).1[i]) : (udres ((uout s d p q l).1.set i y) s d).2.2.2 ≠ 0 ∨ udres ((uout s d p q l).1.set i y) s d = (p, q, l, 0) := by
  have hl := uout_len s d p q l
  have hz := flip_sum (fhead_bytes s d 17 (8 + (l.length : Int))) (fhead_even _ _ _ _) (uout_bytes s d p q hb) (uout_sum s d p q hb) hi hy hne
  have hu := usum_bd s d p q hb
  by_cases hi6 : i = 6 ∨ i = 7
  · unfold udres
    rw [List.length_set, hl, show ((8 + l.length : Nat) : Int) = 8 + (l.length : Int) from by omega]
    have e0 : ((uout s d p q l).1.set i y).take 2 = [p / 256 % 256, p % 256] := by
      rw [uout_form]; rcases hi6 with rfl | rfl <;> rfl
    have e2 : (((uout s d p q l).1.set i y).take 4).drop 2 = [q / 256 % 256, q % 256] := by
      rw [uout_form]; rcases hi6 with rfl | rfl <;> rfl
    have e8 : ((uout s d p q l).1.set i y).drop 8 = l := by
      rw [uout_form]; rcases hi6 with rfl | rfl <;> rfl
    split
    · split
      · left; decide
      · right
        rw [e0, e2, e8, numa2, numa2]
        congr 1
        · omega
        · congr 1; omega
    · left; decide
  · left
    have e6 : (((uout s d p q l).1.set i y).take 8).drop 6 = [usum s d p q l / 256 % 256, usum s d p q l % 256] := by
      rw [uout_form]
      rcases (show i = 0 ∨ i = 1 ∨ i = 2 ∨ i = 3 ∨ i = 4 ∨ i = 5 ∨ 8 ≤ i by omega) with rfl | rfl | rfl | rfl | rfl | rfl | h
      · rfl
      · rfl
      · rfl
      · rfl
      · rfl
      · rfl
      · obtain ⟨j, rfl⟩ : ∃ j, i = j + 8 := ⟨i - 8, by omega⟩
        rfl
    unfold udres
    rw [List.length_set, hl, show ((8 + l.length : Nat) : Int) = 8 + (l.length : Int) from by omega, e6, numa2]
    split
    · rw [if_pos ⟨by omega, hz⟩]; decide
    · decide
/-! ### segments -/
theorem iseg_f (a0 a1 a2 a3 a4 a5 a6 : Int) (b7 : Bool) (a8 : Int) (b9 : Bool) {s : List S60} {p : List Int} (src dst : Int) (hs : s.length + p.length ≤ 1048576) (hb : Bs p) (hg : okG a0 a1 a2 a3 a4 a5 a6 b7 a8 s = true) (h2 : 0 ≤ src ∧ src ≤ 4294967295) (h3 : 0 ≤ dst ∧ dst ≤ 4294967295) (hp : p.length ≤ 60000) {k : Nat} (hk : s.length + p.length + 500 ≤ k) : impl_EncodeSegment.f k a0 a1 a2 a3 a4 a5 a6 b7 a8 b9 s p src dst = some (gout src dst (gseg a0 a1 a2 a3 a4 a5 (gopt a6 b7 a8 b9 s) p), 0) := by
  obtain ⟨k, rfl⟩ : ∃ m, k = m + 1 + 1 + 1 + 1 := ⟨k - 4, by omega⟩
  have hn := okG_len hg
  have ho := gopt_len a6 b7 a8 b9 hn
  unfold impl_EncodeSegment.f
  rw [iOK_f _ _ _ _ _ _ _ _ _ _ _ (by omega) (by omega)]
  simp only [isAddr_f, Option.bind_some, decide_eq_true_eq]
  rw [if_pos hg, if_pos h2, decide_eq_true h3]
  refine (iseg_j a0 a1 a2 a3 a4 a5 a6 b7 a8 b9 src dst hn (by omega) hb (by omega)).trans ?_
  rw [if_neg (by omega)]
theorem gseg_16 (a0 a1 a2 a3 a4 a5 : Int) (o p : List Int) : ∃ h : 17 < (gseg a0 a1 a2 a3 a4 a5 o p).length, (gseg a0 a1 a2 a3 a4 a5 o p)[16] = 0 ∧ (gseg a0 a1 a2 a3 a4 a5 o p)[17] = 0 := by
  refine ⟨by rw [gseg_len]; omega, ?_, ?_⟩
  · simp [gseg, be]
  · simp [gseg, be]
theorem gout_sum (src dst : Int) {a0 a1 a2 a3 a4 a5 : Int} {o p : List Int} (ho : Bs o) (hp : Bs p) : csum (fhead src dst 6 ((gseg a0 a1 a2 a3 a4 a5 o p).length : Int) ++ gout src dst (gseg a0 a1 a2 a3 a4 a5 o p)) = 0 := by
  obtain ⟨h, e16, e17⟩ := gseg_16 a0 a1 a2 a3 a4 a5 o p
  exact put_sum (fhead_bytes _ _ _ _) (fhead_even _ _ _ _) (gseg_bytes a0 a1 a2 a3 a4 a5 ho hp) (i := 16) h (by decide) e16 e17 (fhead_pos _ _ _ _ (by decide)) (.inl rfl)
theorem gout_bytes (src dst : Int) {g : List Int} (hg : Bs g) : Bs (gout src dst g) := by
  unfold gout
  exact bset (bset hg _ (by omega)) _ (by omega)
theorem dseg_f {b : List Int} (hb : Bs b) (hn : b.length ≤ 65535) (s d : Int) (hz : csum (fhead s d 6 (b.length : Int) ++ b) ≠ 0) {k : Nat} (hk : b.length + 100 ≤ k) : ∃ y : Int × Int × Int × Int × Int × Int × Int × Bool × Int × Bool × List S60 × List Int × Int, impl_DecodeSegment.f k b s d = some y ∧ y.2.2.2.2.2.2.2.2.2.2.2.2 ≠ 0 := by
  unfold impl_DecodeSegment.f
  simp only [isAddr_f, Option.bind_some, decide_eq_true_eq]
  by_cases h1 : 0 ≤ s ∧ s ≤ 4294967295
  · rw [if_pos h1]
    by_cases h2 : 0 ≤ d ∧ d ≤ 4294967295
    · rw [if_pos h2]
      unfold impl_DecodeSegment.g
      by_cases h3 : (b.length : Int) < 20
      · rw [if_pos h3]; exact ⟨_, rfl, by decide⟩
      rw [if_neg h3]
      by_cases h4 : 65515 < (b.length : Int)
      · rw [if_pos h4]; exact ⟨_, rfl, by decide⟩
      rw [if_neg h4]
      unfold impl_DecodeSegment.s
      generalize wrap64 ((wrap64 ((rd b 12) / 16)) * 4) = n
      by_cases h5 : n < 20
      · rw [if_pos h5]; exact ⟨_, rfl, by decide⟩
      rw [if_neg h5]
      by_cases h6 : (b.length : Int) < n
      · rw [if_pos h6]; exact ⟨_, rfl, by decide⟩
      rw [if_neg h6, ifh_f _ _ _ _ (by omega), Option.bind_some, if_pos (by rw [fhead_len]; omega), icheck_f ((fhead_bytes _ _ _ _).append hb) (by rw [List.length_append, fhead_len]; omega) (by rw [List.length_append, fhead_len]; omega), Option.bind_some, if_neg hz]
      exact ⟨_, rfl, by decide⟩
    · rw [if_neg h2]; exact ⟨_, rfl, by decide⟩
  · rw [if_neg h1]; exact ⟨_, rfl, by decide⟩
/-! ### the draws -/
theorem host_f {l : List Int} (hl : l.length ≤ 1048576) {p : Int} (st : Int) (hp : 0 ≤ p) : ∃ r p' st', spec_l02Host.f l p st = some (r, p', st') ∧ 0 ≤ p' := by
  unfold spec_l02Host.f
  obtain ⟨x, p1, s1, e, h0, h1, hp1⟩ := l01n_f hl st (n := 2) hp (by omega) (by omega)
  rw [e]
  simp only [Option.bind_some]
  obtain ⟨y, p2, s2, e, h2, h3, hp2⟩ := l01n_f hl s1 (n := 6) hp1 (by omega) (by omega)
  rw [e]
  exact ⟨_, _, _, rfl, hp2⟩
theorem bool_f {l : List Int} (hl : l.length ≤ 1048576) {p : Int} (st : Int) (hp : 0 ≤ p) : ∃ r p' st', spec_l01Bool.f l p st = some (r, p', st') ∧ 0 ≤ p' := by
  unfold spec_l01Bool.f
  obtain ⟨x, p1, s1, e, h0, h1, hp1⟩ := l01n_f hl st (n := 2) hp (by omega) (by omega)
  rw [e]
  exact ⟨_, _, _, rfl, hp1⟩
theorem seq_f {l : List Int} (hl : l.length ≤ 1048576) {p : Int} (st : Int) (hp : 0 ≤ p) : ∃ r p' st', spec_l01Seq.f l p st = some (r, p', st') ∧ (0 ≤ r ∧ r ≤ 4294967295) ∧ 0 ≤ p' := by
  unfold spec_l01Seq.f
  obtain ⟨x, p1, s1, e, h0, h1, hp1⟩ := l01n_f hl st (n := 4) hp (by omega) (by omega)
  rw [e]
  simp only [Option.bind_some]
  split
  · obtain ⟨y, p2, s2, e, h2, h3, hp2⟩ := l01n_f hl s1 (n := 3000) hp1 (by omega) (by omega)
    rw [e]
    exact ⟨_, _, _, rfl, by rw [wr64 (by omega)]; omega, hp2⟩
  · split
    · obtain ⟨y, p2, s2, e, h2, h3, hp2⟩ := l01n_f hl s1 (n := 3000) hp1 (by omega) (by omega)
      rw [e]
      exact ⟨_, _, _, rfl, by omega, hp2⟩
    · split
      · obtain ⟨y, p2, s2, e, h2, h3, hp2⟩ := l01n_f hl s1 (n := 4) hp1 (by omega) (by omega)
        rw [e]
        exact ⟨_, _, _, rfl, by rw [wr64 (by omega)]; omega, hp2⟩
      · obtain ⟨y, p2, s2, e, h2, h3, hp2⟩ := l01n_f hl s1 (n := 2147483648) hp1 (by omega) (by omega)
        rw [e]
        exact ⟨_, _, _, rfl, by rw [wr64 (by omega)]; omega, hp2⟩
theorem bytes_l {l : List Int} (hl : l.length ≤ 1048576) (n : Int) (hn : 0 ≤ n ∧ n ≤ 1000) (d : Nat) : ∀ (k : Nat) (x : List Int) (i p st : Int), i + (d : Int) = n → 0 ≤ i → (x.length : Int) = i → Bs x → 0 ≤ p → d < k → ∃ b p' st', spec_l01Bytes.l0 k n x i l p st = some (b, p', st') ∧ (b.length : Int) = n ∧ Bs b ∧ 0 ≤ p' := by
  induction d with
  | zero =>
    intro k x i p st hi h0 hx hb hp hk
    obtain ⟨k, rfl⟩ : ∃ m, k = m + 1 := ⟨k - 1, by omega⟩
    rw [spec_l01Bytes.l0, if_neg (by omega)]
    exact ⟨_, _, _, rfl, by omega, hb, hp⟩
  | succ d ih =>
    intro k x i p st hi h0 hx hb hp hk
    obtain ⟨k, rfl⟩ : ∃ m, k = m + 1 := ⟨k - 1, by omega⟩
    obtain ⟨y, p1, s1, e, h1, h2, hp1⟩ := l01n_f hl st (n := 256) hp (by omega) (by omega)
    rw [spec_l01Bytes.l0, if_pos (by omega), e, Option.bind_some, if_pos (by omega), wr64 (a := i + 1) (by omega)]
    refine ih k _ (i + 1) p1 s1 (by omega) (by omega) (by simp; omega) (hb.append ?_) hp1 (by omega)
    intro z hz
    rw [List.mem_singleton.1 hz]
    omega
theorem bytes_f {l : List Int} (hl : l.length ≤ 1048576) {n : Int} (hn : 0 ≤ n ∧ n ≤ 1000) {p : Int} (st : Int) (hp : 0 ≤ p) {k : Nat} (hk : 1000 < k) : ∃ b p' st', spec_l01Bytes.f k l p st n = some (b, p', st') ∧ (b.length : Int) = n ∧ Bs b ∧ 0 ≤ p' := by
  unfold spec_l01Bytes.f
  exact bytes_l hl n hn n.toNat k [] 0 p st (by omega) (by omega) (by simp) (by intro x hx; cases hx) hp (by omega)
theorem dgram_f {l : List Int} (hl : l.length ≤ 1048576) {p : Int} (st : Int) (hp : 0 ≤ p) {k : Nat} (hk : 1000 < k) : ∃ a b x p' st', spec_l10Datagram.f k l p st = some (a, b, x, p', st') ∧ x.length ≤ 40 ∧ Bs x ∧ 0 ≤ p' := by
  unfold spec_l10Datagram.f
  obtain ⟨x, p1, s1, e, _, _, hp1⟩ := l01n_f hl st (n := 3) hp (by omega) (by omega)
  rw [e, Option.bind_some]
  obtain ⟨y, p2, s2, e, _, _, hp2⟩ := l01n_f hl s1 (n := 8) hp1 (by omega) (by omega)
  rw [e, Option.bind_some]
  obtain ⟨z, p3, s3, e, h0, h1, hp3⟩ := l01n_f hl s2 (n := 40) hp2 (by omega) (by omega)
  rw [e, Option.bind_some]
  obtain ⟨b, p4, s4, e, hb, hB, hp4⟩ := bytes_f hl (n := z) (by omega) s3 hp3 hk
  rw [e, Option.bind_some]
  exact ⟨_, _, _, _, _, rfl, by show b.length ≤ 40; omega, hB, hp4⟩
theorem nul2 : Bs [0, 0] := by
  intro x hx
  simp only [List.mem_cons, List.not_mem_nil, or_false] at hx
  rcases hx with rfl | rfl <;> omega
theorem two_b {a b : Int} (ha : 0 ≤ a ∧ a ≤ 255) (hb : 0 ≤ b ∧ b ≤ 255) : Bs [a, b] := by
  intro x hx
  simp only [List.mem_cons, List.not_mem_nil, or_false] at hx
  rcases hx with rfl | rfl <;> assumption
theorem rd_bs {l : List Int} (h : Bs l) (i : Int) : 0 ≤ rd l i ∧ rd l i ≤ 255 := by
  unfold rd
  rw [List.getD_eq_getElem?_getD]
  rcases hq : l[i.toNat]? with _ | x
  · simp
  · exact h x (List.mem_of_getElem? hq)
theorem case6 (p q s d : Int) {k : Nat} (hk : 1000 ≤ k) : ∃ x, ((spec_EncodeUdp.f k p q [0, 0] s d).bind fun bt => (if bt.2 = 0 then (if 6 < (bt.1.length : Int) then (if 7 < (bt.1.length : Int) then (some (p, q, (([rd bt.1 6, rd bt.1 7] : List Int)), s, d)) else (none)) else (none)) else (some (p, q, [0, 0], s, d)))) = some (p, q, x, s, d) ∧ x.length ≤ 40 ∧ Bs x := by
  rw [(udp_f nul2 (by decide) p q s d (show [0, 0].length + 101 < k from by simp; omega)).1, Option.bind_some]
  unfold gudp
  by_cases h : udok p q s d
  · rw [if_pos h, if_neg (show ¬ ((([0, 0] : List Int).length : Int) > 65507) by decide), uout_ok]
    have hl := uout_len s d p q [0, 0]
    have hb := uout_bytes s d p q nul2
    simp only [List.length_cons, List.length_nil] at hl
    rw [if_pos rfl, if_pos (by omega), if_pos (by omega)]
    exact ⟨_, rfl, by simp, two_b (rd_bs hb _) (rd_bs hb _)⟩
  · rw [if_neg h, if_neg (by decide)]
    exact ⟨_, rfl, by simp, nul2⟩
theorem draw_f {l : List Int} (hl : l.length ≤ 1048576) {k : Nat} (hk : l.length + 2000 ≤ k) : ∃ p q x s d, spec_DrawEncodeUdp.f k l = some (p, q, x, s, d) ∧ x.length ≤ 70000 ∧ Bs x := by
  unfold spec_DrawEncodeUdp.f
  obtain ⟨st, e⟩ := l01b_f hl (k := k) (by omega)
  rw [e, Option.bind_some]
  obtain ⟨a, b, x, p1, s1, e, hx, hB, hp1⟩ := dgram_f hl st (p := 0) (by omega) (k := k) (by omega)
  rw [e, Option.bind_some]
  obtain ⟨src, p2, s2, e, hp2⟩ := host_f hl s1 hp1
  rw [e, Option.bind_some]
  obtain ⟨dst, p3, s3, e, hp3⟩ := host_f hl s2 hp2
  rw [e, Option.bind_some]
  obtain ⟨c, p4, s4, e, h0, h1, hp4⟩ := l01n_f hl s3 (n := 16) hp3 (by omega) (by omega)
  rw [e, Option.bind_some]
  simp only [Option.bind_some]
  by_cases c0 : c = 0
  · rw [if_pos c0]; exact ⟨_, _, _, _, _, rfl, by omega, hB⟩
  rw [if_neg c0]
  by_cases c1 : c = 1
  · rw [if_pos c1]; exact ⟨_, _, _, _, _, rfl, by omega, hB⟩
  rw [if_neg c1]
  by_cases c2 : c = 2
  · rw [if_pos c2]; exact ⟨_, _, _, _, _, rfl, by omega, hB⟩
  rw [if_neg c2]
  by_cases c3 : c = 3
  · rw [if_pos c3]; exact ⟨_, _, _, _, _, rfl, by omega, hB⟩
  rw [if_neg c3]
  by_cases c4 : c = 4
  · rw [if_pos c4]
    obtain ⟨y, p5, s5, e, h2, h3, hp5⟩ := l01n_f hl s4 (n := 2) hp4 (by omega) (by omega)
    rw [e, Option.bind_some]
    simp only
    rw [wr64 (a := 65507 + y) (by omega), if_pos (by omega), if_pos (by omega)]
    refine ⟨_, _, _, _, _, rfl, by rw [List.length_replicate]; omega, ?_⟩
    intro z hz
    rw [List.eq_of_mem_replicate hz]
    omega
  rw [if_neg c4]
  by_cases c5 : c = 5
  · rw [if_pos c5]; exact ⟨_, _, _, _, _, rfl, by simp, two_b (by omega) (by omega)⟩
  rw [if_neg c5]
  by_cases c6 : c = 6
  · rw [if_pos c6]
    obtain ⟨x6, e6, h6, b6⟩ := case6 a b src dst (k := k) (by omega)
    exact ⟨_, _, _, _, _, e6, by omega, b6⟩
  rw [if_neg c6]
  by_cases c7 : c = 7
  · rw [if_pos c7]
    obtain ⟨x6, e6, h6, b6⟩ := case6 a b src dst (k := k) (by omega)
    exact ⟨_, _, _, _, _, e6, by omega, b6⟩
  rw [if_neg c7]
  exact ⟨_, _, _, _, _, rfl, by omega, hB⟩
theorem pat_l (a n : Int) (ha : 0 ≤ a ∧ a ≤ 1000000) (hn : 0 ≤ n ∧ n ≤ 1000) (d : Nat) : ∀ (k : Nat) (x : List Int) (i : Int), i + (d : Int) = n → 0 ≤ i → (x.length : Int) = i → Bs x → d < k → ∃ b, laws_lwPattern.l0 k a n x i = some b ∧ (b.length : Int) = n ∧ Bs b := by
  induction d with
  | zero =>
    intro k x i hi h0 hx hb hk
    obtain ⟨k, rfl⟩ : ∃ m, k = m + 1 := ⟨k - 1, by omega⟩
    rw [laws_lwPattern.l0, if_neg (by omega)]
    exact ⟨x, rfl, by omega, hb⟩
  | succ d ih =>
    intro k x i hi h0 hx hb hk
    obtain ⟨k, rfl⟩ : ∃ m, k = m + 1 := ⟨k - 1, by omega⟩
    rw [laws_lwPattern.l0, if_pos (by omega), if_pos (by omega), wr64 (a := i + 1) (by omega)]
    refine ih k _ (i + 1) (by omega) (by omega) (by simp; omega) (hb.append ?_) (by omega)
    intro z hz
    rw [List.mem_singleton.1 hz]
    omega
theorem pat_f {a n : Int} (ha : 0 ≤ a ∧ a ≤ 1000000) (hn : 0 ≤ n ∧ n ≤ 1000) {k : Nat} (hk : 1000 < k) : ∃ b, laws_lwPattern.f k a n = some b ∧ (b.length : Int) = n ∧ Bs b := by
  unfold laws_lwPattern.f
  exact pat_l a n ha hn n.toNat k [] 0 (by omega) (by omega) (by simp) (by intro x hx; cases hx) (by omega)
theorem sacks_l {l : List Int} (hl : l.length ≤ 1048576) (n : Int) (hn : n ≤ 4) (d : Nat) : ∀ (k : Nat) (i p st : Int) (s : List S60), (s.length : Int) + (d : Int) ≤ 3 → n ≤ i + (d : Int) → 1 ≤ i → i ≤ 10 → s.all sOK = true → 0 ≤ p → d < k → ∃ r p' st', spec_l11Draw.l0 k n i l p st s = some (r, p', st') ∧ r.length ≤ 3 ∧ r.all sOK = true ∧ 0 ≤ p' := by
  induction d with
  | zero =>
    intro k i p st s hs hi h1 h10 hr hp hk
    obtain ⟨k, rfl⟩ : ∃ m, k = m + 1 := ⟨k - 1, by omega⟩
    rw [spec_l11Draw.l0, if_neg (by omega)]
    exact ⟨_, _, _, rfl, by omega, hr, hp⟩
  | succ d ih =>
    intro k i p st s hs hi h1 h10 hr hp hk
    obtain ⟨k, rfl⟩ : ∃ m, k = m + 1 := ⟨k - 1, by omega⟩
    rw [spec_l11Draw.l0]
    by_cases h : i < n
    · rw [if_pos h]
      obtain ⟨a, p1, s1, e, ha, hp1⟩ := seq_f hl st hp
      rw [e, Option.bind_some]
      obtain ⟨b, p2, s2, e, hb, hp2⟩ := seq_f hl s1 hp1
      rw [e, Option.bind_some, if_pos (by omega), wr64 (a := i + 1) (by omega)]
      refine ih k (i + 1) p2 s2 _ (by simp; omega) (by omega) (by omega) (by omega) ?_ hp2 (by omega)
      rw [List.all_append, hr]
      simp [sOK, ha, hb]
    · rw [if_neg h]
      exact ⟨_, _, _, rfl, by omega, hr, hp⟩
abbrev XS := Int × Int × Int × Int × Int × Int × Int × Bool × Int × Bool × List S60 × List Int × Int × Int
/-- what is drawn is a right segment -/
def GoodS (y : XS) : Prop := okG y.1 y.2.1 y.2.2.1 y.2.2.2.1 y.2.2.2.2.1 y.2.2.2.2.2.1 y.2.2.2.2.2.2.1 y.2.2.2.2.2.2.2.1 y.2.2.2.2.2.2.2.2.1 y.2.2.2.2.2.2.2.2.2.2.1 = true ∧ y.2.2.2.2.2.2.2.2.2.2.2.1.length ≤ 100 ∧ Bs y.2.2.2.2.2.2.2.2.2.2.2.1
theorem d3_f {l : List Int} (hl : l.length ≤ 1048576) {x0 x1 x2 x3 x4 x5 x6 : Int} {x7 : Bool} {x8 : Int} {x9 : Bool} {p : Int} (st : Int) (dl : List Int) (hp : 0 ≤ p) (hd : dl.length ≤ 100) (hB : Bs dl) (hok : okG0 x0 x1 x2 x3 x4 x5 x6 x7 x8 0) {k : Nat} (hk : 10 ≤ k) : ∃ y, spec_l11Draw.j3 k x0 x1 x2 x3 x4 x5 x6 x7 x8 x9 l p st dl = some y ∧ GoodS y := by
  unfold spec_l11Draw.j3
  obtain ⟨a, p1, s1, e, hp1⟩ := bool_f hl st hp
  rw [e, Option.bind_some]
  obtain ⟨n, p2, s2, e, h0, h1, hp2⟩ := l01n_f hl s1 (n := 5) hp1 (by omega) (by omega)
  rw [e, Option.bind_some]
  obtain ⟨r, p3, s3, e, hr, hrs, hp3⟩ := sacks_l hl n (by omega) 3 k 1 p2 s2 [] (by simp) (by omega) (by omega) (by omega) rfl hp2 (by omega)
  rw [e, Option.bind_some]
  refine ⟨_, rfl, ?_, hd, hB⟩
  unfold okG
  rw [hrs, Bool.and_true, decide_eq_true_eq]
  obtain ⟨g0, g1, g2, g3, g4, g5, g6, g8, g7, _⟩ := hok
  exact ⟨g0, g1, g2, g3, g4, g5, g6, g8, g7, hr⟩
theorem d2_f {l : List Int} (hl : l.length ≤ 1048576) {x0 x1 x2 x3 x4 x5 x6 : Int} {x9 : Bool} {p : Int} (st : Int) (dl : List Int) (hp : 0 ≤ p) (hd : dl.length ≤ 100) (hB : Bs dl) (hok : okG0 x0 x1 x2 x3 x4 x5 x6 false 0 0) {k : Nat} (hk : 10 ≤ k) : ∃ y, spec_l11Draw.j2 k x0 x1 x2 x3 x4 x5 x6 false 0 x9 l p st dl = some y ∧ GoodS y := by
  unfold spec_l11Draw.j2
  obtain ⟨a, p1, s1, e, hp1⟩ := bool_f hl st hp
  rw [e, Option.bind_some]
  obtain ⟨g0, g1, g2, g3, g4, g5, g6, g8, g7, g9⟩ := hok
  cases a with
  | true =>
    rw [if_pos rfl]
    obtain ⟨n, p2, s2, e, h0, h1, hp2⟩ := l01n_f hl s1 (n := 15) hp1 (by omega) (by omega)
    rw [e, Option.bind_some]
    exact d3_f hl s2 dl hp2 hd hB ⟨g0, g1, g2, g3, g4, g5, g6, by simp only; omega, .inl rfl, g9⟩ hk
  | false =>
    rw [if_neg (show ¬ (false = true) by decide)]
    exact d3_f hl s1 dl hp1 hd hB ⟨g0, g1, g2, g3, g4, g5, g6, g8, g7, g9⟩ hk
theorem d1_f {l : List Int} (hl : l.length ≤ 1048576) {x0 x1 x2 x3 x4 x5 : Int} {x9 : Bool} {p : Int} (st : Int) (dl : List Int) (hp : 0 ≤ p) (hd : dl.length ≤ 100) (hB : Bs dl) (hok : okG0 x0 x1 x2 x3 x4 x5 0 false 0 0) {k : Nat} (hk : 10 ≤ k) : ∃ y, spec_l11Draw.j1 k x0 x1 x2 x3 x4 x5 0 false 0 x9 l p st dl = some y ∧ GoodS y := by
  unfold spec_l11Draw.j1
  obtain ⟨a, p1, s1, e, hp1⟩ := bool_f hl st hp
  rw [e, Option.bind_some]
  obtain ⟨g0, g1, g2, g3, g4, g5, g6, g8, g7, g9⟩ := hok
  cases a with
  | true =>
    rw [if_pos rfl]
    obtain ⟨n, p2, s2, e, h0, h1, hp2⟩ := l01n_f hl s1 (n := 1000) hp1 (by omega) (by omega)
    rw [e, Option.bind_some]
    exact d2_f hl s2 dl hp2 hd hB ⟨g0, g1, g2, g3, g4, g5, by simp only; rw [wr64 (by omega)]; omega, g8, g7, g9⟩ hk
  | false =>
    rw [if_neg (show ¬ (false = true) by decide)]
    exact d2_f hl s1 dl hp1 hd hB ⟨g0, g1, g2, g3, g4, g5, g6, g8, g7, g9⟩ hk
theorem d0_f {l : List Int} (hl : l.length ≤ 1048576) {x0 x1 x2 x3 x4 x5 : Int} {x9 : Bool} {p : Int} (st : Int) (dl : List Int) (hp : 0 ≤ p) (hd : dl.length ≤ 100) (hB : Bs dl) (hok : okG0 x0 x1 x2 x3 x4 x5 0 false 0 0) {k : Nat} (hk : 10 ≤ k) : ∃ y, spec_l11Draw.j0 k x0 x1 x2 x3 x4 x5 0 false 0 x9 l p st dl = some y ∧ GoodS y := by
  unfold spec_l11Draw.j0
  obtain ⟨a, p1, s1, e, _, _, hp1⟩ := l01n_f hl st (n := 12) hp (by omega) (by omega)
  rw [e, Option.bind_some]
  obtain ⟨g0, g1, g2, g3, g4, g5, g6, g8, g7, g9⟩ := hok
  by_cases h : a = 0
  · rw [if_pos h]
    obtain ⟨n, p2, s2, e, h0, h1, hp2⟩ := l01n_f hl s1 (n := 64) hp1 (by omega) (by omega)
    rw [e, Option.bind_some]
    exact d1_f hl s2 dl hp2 hd hB ⟨g0, g1, g2, g3, by simp only; omega, g5, g6, g8, g7, g9⟩ hk
  · rw [if_neg h]
    exact d1_f hl s1 dl hp1 hd hB ⟨g0, g1, g2, g3, g4, g5, g6, g8, g7, g9⟩ hk
theorem flags_f {n : Int} (h : 0 ≤ n ∧ n < 8) : 0 ≤ rd ([2, 18, 16, 24, 17, 4, 20, 0] : List Int) n ∧ rd ([2, 18, 16, 24, 17, 4, 20, 0] : List Int) n ≤ 63 := by
  rcases (show n = 0 ∨ n = 1 ∨ n = 2 ∨ n = 3 ∨ n = 4 ∨ n = 5 ∨ n = 6 ∨ n = 7 by omega) with rfl | rfl | rfl | rfl | rfl | rfl | rfl | rfl <;> decide
theorem dseg_draw {l : List Int} (hl : l.length ≤ 1048576) {p : Int} (st : Int) (hp : 0 ≤ p) {k : Nat} (hk : 2000 ≤ k) : ∃ y, spec_l11Draw.f k l p st 20 = some y ∧ GoodS y := by
  unfold spec_l11Draw.f
  obtain ⟨n1, p1, s1, e, a1, b1, hp1⟩ := l01n_f hl st (n := 2) hp (by omega) (by omega)
  rw [e, Option.bind_some]
  obtain ⟨n2, p2, s2, e, a2, b2, hp2⟩ := l01n_f hl s1 (n := 4) hp1 (by omega) (by omega)
  rw [e, Option.bind_some]
  obtain ⟨n3, p3, s3, e, a3, hp3⟩ := seq_f hl s2 hp2
  rw [e, Option.bind_some]
  obtain ⟨n4, p4, s4, e, a4, hp4⟩ := seq_f hl s3 hp3
  rw [e, Option.bind_some]
  obtain ⟨n5, p5, s5, e, a5, b5, hp5⟩ := l01n_f hl s4 (n := 8) hp4 (by omega) (by omega)
  rw [e, Option.bind_some]
  obtain ⟨n6, p6, s6, e, a6, b6, hp6⟩ := l01n_f hl s5 (n := 65536) hp5 (by omega) (by omega)
  rw [e, Option.bind_some]
  obtain ⟨n7, p7, s7, e, a7, b7, hp7⟩ := l01n_f hl s6 (n := 20) hp6 (by omega) (by omega)
  rw [e, Option.bind_some]
  obtain ⟨dl, p8, s8, e, hd, hB, hp8⟩ := bytes_f hl (n := n7) (by omega) s7 hp7 (k := k) (by omega)
  rw [e, Option.bind_some]
  simp only
  rw [if_pos a5, if_pos b5, wr64 (a := 1000 + n1) (by omega), wr64 (a := 50 + n2) (by omega)]
  have hf := flags_f (n := n5) ⟨a5, b5⟩
  exact d0_f hl s8 dl hp8 (by omega) hB ⟨by omega, by omega, by omega, by omega, by omega, by omega, by omega, by omega, .inr rfl, by omega⟩ (by omega)
abbrev XG := Int × Int × Int × Int × Int × Int × Int × Bool × Int × Bool × List S60 × List Int
theorem dsl_f {l : List Int} (hl : l.length ≤ 1048576) {k : Nat} (hk : l.length + 2000 ≤ k) : ∃ y : XG, spec_DrawSegmentLength.f k l = some y ∧ okG y.1 y.2.1 y.2.2.1 y.2.2.2.1 y.2.2.2.2.1 y.2.2.2.2.2.1 y.2.2.2.2.2.2.1 y.2.2.2.2.2.2.2.1 y.2.2.2.2.2.2.2.2.1 y.2.2.2.2.2.2.2.2.2.2.1 = true ∧ y.2.2.2.2.2.2.2.2.2.2.2.length ≤ 100 ∧ Bs y.2.2.2.2.2.2.2.2.2.2.2 := by
  unfold spec_DrawSegmentLength.f
  obtain ⟨st, e⟩ := l01b_f hl (k := k) (by omega)
  rw [e, Option.bind_some]
  obtain ⟨y, e, hg, hd, hB⟩ := dseg_draw hl st (p := 0) (by omega) (k := k) (by omega)
  rw [e, Option.bind_some]
  exact ⟨_, rfl, hg, hd, hB⟩
/-! ### the law's pieces -/
theorem j6_eq (k : Nat) (x5 x6 : Int) (x14 : List Int) (x127 : Bool) (a : List Int) (b c : Int) : laws_FnOneBit.j6 k x5 x6 x14 x127 a b c = laws_FnOneBit.j3 k x5 x6 x14 x127 a b c := by
  cases k <;> simp only [laws_FnOneBit.j6, laws_FnOneBit.j3]
theorem j5_eq (k : Nat) (x0 : List Int) (x5 x6 : Int) (x111 : Bool) (a : List Int) (b c : Int) : laws_FnOneBit.j5 k x0 x5 x6 x111 a b c = laws_FnOneBit.j2 k x0 x5 x6 x111 a b c := by
  cases k <;> simp only [laws_FnOneBit.j5, laws_FnOneBit.j2, j6_eq]
theorem j4_eq (k : Nat) (x0 : List Int) (x5 x6 : Int) (x9 : List Int) (x62 : Bool) (a : List Int) (b c e f : Int) (g : List Int) : laws_FnOneBit.j4 k x0 x5 x6 x9 x62 a b c e f g = laws_FnOneBit.j1 k x0 x5 x6 x9 x62 a b c e f g := by
  cases k <;> simp only [laws_FnOneBit.j4, laws_FnOneBit.j1, j5_eq]
/-- a number below eight times a length: its byte and its bit -/
theorem place {b : List Int} (hB : Bs b) (hn : b.length ≤ 65535) {r : Int} (h0 : 0 ≤ r) (h1 : r < 8 * (b.length : Int)) : ∃ i : Nat, ∃ y : Int, ∃ h : i < b.length, wrap64 (Int.tdiv r 8) = (i : Int) ∧ 0 ≤ IntKind.u64.wrap (Int.tmod r 8) ∧ Go.bits .xor .u8 (rd b (i : Int)) (shl .u8 1 (IntKind.u64.wrap (Int.tmod r 8))) = y ∧ (0 ≤ y ∧ y ≤ 255) ∧ y ≠ b[i] := by
  have e1 : wrap64 (Int.tdiv r 8) = r / 8 := by rw [td_pos 8 h0, wr64 (by omega)]
  have e2 : Int.tmod r 8 = r % 8 := tm_pos 8 h0
  obtain ⟨i, hi⟩ : ∃ i : Nat, (i : Int) = r / 8 := ⟨(r / 8).toNat, by omega⟩
  have hlt : i < b.length := by omega
  have hg := hB.get hlt
  have hf := flip_f (x := b[i]) (j := r % 8) hg (by omega)
  refine ⟨i, _, hlt, by rw [e1, hi], ?_, rfl, ?_, ?_⟩
  · exact u64_nn _
  · rw [rd_at hlt, e2]; exact hf.1
  · rw [rd_at hlt, e2]; exact hf.2
theorem law3 {l : List Int} (hl : l.length ≤ 1048576) {g : List Int} (hB : Bs g) (h20 : 20 ≤ g.length) (hn : g.length ≤ 60000) (src dst : Int) (hz : csum (fhead src dst 6 (g.length : Int) ++ g) = 0) {p : Int} (st : Int) (hp : 0 ≤ p) {k : Nat} (hk : 70000 ≤ k) : laws_FnOneBit.j3 (k + 1) src dst g false l p st = some true := by
  rw [laws_FnOneBit.j3, if_neg (by decide), wr64 (a := 8 * (g.length : Int)) (by omega)]
  obtain ⟨r, p1, s1, e, h0, h1, hp1⟩ := lwn_f hl st (n := 8 * (g.length : Int)) hp (by omega) (by omega)
  rw [e, Option.bind_some]
  obtain ⟨i, y, hi, e1, e2, e3, hy, hne⟩ := place hB (by omega) h0 h1
  simp only
  rw [e1, if_pos (by omega), if_pos (by omega), if_pos e2, e3, Int.toNat_natCast]
  have hz2 := flip_sum (fhead_bytes src dst 6 (g.length : Int)) (fhead_even _ _ _ _) hB hz hi hy hne
  obtain ⟨z, e, hc⟩ := dseg_f (b := g.set i y) (bset hB _ hy) (by rw [List.length_set]; omega) src dst (by rw [List.length_set]; exact hz2) (k := k) (by rw [List.length_set]; omega)
  rw [e, Option.bind_some, bne_iff_ne.mpr hc]
theorem law2 {l : List Int} (hl : l.length ≤ 1048576) {src dst : Int} (hs : 0 ≤ src ∧ src ≤ 4294967295) (hd : 0 ≤ dst ∧ dst ≤ 4294967295) {p : Int} (st : Int) (hp : 0 ≤ p) {k : Nat} (hk : l.length + 80000 ≤ k) : laws_FnOneBit.j2 (k + 1) l src dst false l p st = some true := by
  rw [laws_FnOneBit.j2, if_neg (by decide)]
  obtain ⟨⟨a0, a1, a2, a3, a4, a5, a6, b7, a8, b9, s, dl⟩, e, hg, hdl, hB⟩ := dsl_f hl (k := k) (by omega)
  rw [e, Option.bind_some]
  simp only at hg hdl hB ⊢
  have hn := okG_len hg
  have ho := gopt_len a6 b7 a8 b9 hn
  rw [iseg_f a0 a1 a2 a3 a4 a5 a6 b7 a8 b9 src dst (by omega) hB hg hs hd (by omega) (by omega), Option.bind_some]
  have hgl := gseg_len a0 a1 a2 a3 a4 a5 (gopt a6 b7 a8 b9 s) dl
  have hol := gout_len src dst (gseg a0 a1 a2 a3 a4 a5 (gopt a6 b7 a8 b9 s) dl)
  obtain ⟨k, rfl⟩ : ∃ m, k = m + 1 := ⟨k - 1, by omega⟩
  rw [if_pos rfl, decide_eq_false (show ¬ ((gout src dst (gseg a0 a1 a2 a3 a4 a5 (gopt a6 b7 a8 b9 s) dl)).length : Int) < 20 by omega)]
  refine law3 hl (gout_bytes src dst (gseg_bytes a0 a1 a2 a3 a4 a5 (gopt_bytes a6 b7 a8 b9 s) hB)) (by omega) (by omega) src dst ?_ st hp (by omega)
  rw [hol]
  exact gout_sum src dst (gopt_bytes a6 b7 a8 b9 s) hB
theorem law1 {l : List Int} (hl : l.length ≤ 1048576) {src dst p q : Int} (hok : udok p q src dst) {x : List Int} (hB : Bs x) (hx : x.length ≤ 2000) {pos : Int} (st : Int) (hp : 0 ≤ pos) {k : Nat} (hk : l.length + 90000 ≤ k) : laws_FnOneBit.j1 (k + 1) l src dst (uout src dst p q x).1 false l pos st p q x = some true := by
  have hul := uout_len src dst p q x
  have huB := uout_bytes src dst p q hB
  rw [laws_FnOneBit.j1, if_neg (by decide), wr64 (a := 8 * ((uout src dst p q x).1.length : Int)) (by omega)]
  obtain ⟨r, p1, s1, e, h0, h1, hp1⟩ := lwn_f hl st (n := 8 * ((uout src dst p q x).1.length : Int)) hp (by omega) (by omega)
  rw [e, Option.bind_some]
  obtain ⟨i, y, hi, e1, e2, e3, hy, hne⟩ := place huB (by omega) h0 h1
  simp only
  rw [e1, if_pos (by omega), if_pos (by omega), if_pos e2, e3, Int.toNat_natCast]
  obtain ⟨k, rfl⟩ : ∃ m, k = m + 1 := ⟨k - 1, by omega⟩
  rw [udec_f (b := (uout src dst p q x).1.set i y) (bset huB _ hy) (by rw [List.length_set]; omega) (by rw [List.length_set]; omega) hok.2.2.1 hok.2.2.2 (by rw [List.length_set]; omega), Option.bind_some]
  have fin := law2 hl hok.2.2.1 hok.2.2.2 s1 hp1 (k := k) (by omega)
  rcases udp_turned hB (by omega) hok.1 hok.2.1 hi hy hne with h | h
  · rw [if_neg h]
    exact fin
  · rw [h]
    simp only [if_true]
    unfold laws_lwSame.f
    rw [Option.bind_some, beq_self_eq_true, Bool.not_true]
    exact fin
theorem good_u {p q s d : Int} {x : List Int} (h : (gudp p q x s d).2 = 0) : udok p q s d ∧ gudp p q x s d = ((uout s d p q x).1, 0) := by
  unfold gudp at h ⊢
  by_cases hg : udok p q s d
  · rw [if_pos hg] at h ⊢
    by_cases h8 : (x.length : Int) > 65507
    · rw [if_pos h8] at h; exact absurd h (by decide)
    · rw [if_neg h8]
      exact ⟨hg, Prod.ext rfl (uout_ok s d p q x)⟩
  · rw [if_neg hg] at h
    exact absurd h (by decide)
theorem law0f {l : List Int} (hl : l.length ≤ 1048576) {src dst p q : Int} {x : List Int} (hB : Bs x) (hx : x.length ≤ 2000) (hok : udok p q src dst) {pos : Int} (st : Int) (hp : 0 ≤ pos) {k : Nat} (hk : l.length + 100000 ≤ k) : laws_FnOneBit.j0 (k + 1) l src dst false l pos st p q x = some true := by
  have hul := uout_len src dst p q x
  have eg : gudp p q x src dst = ((uout src dst p q x).1, 0) := by
    unfold gudp
    rw [if_pos hok, if_neg (by omega)]
    exact Prod.ext rfl (uout_ok src dst p q x)
  obtain ⟨k, rfl⟩ : ∃ m, k = m + 1 := ⟨k - 1, by omega⟩
  rw [laws_FnOneBit.j0, if_neg (by decide), (udp_f hB (by omega) p q src dst (by omega)).2, eg, Option.bind_some]
  simp only [if_true]
  rw [j4_eq, wr64 (a := 8 + (x.length : Int)) (by omega), bne_eq_false_iff_eq.mpr (show ((uout src dst p q x).1.length : Int) = 8 + (x.length : Int) by omega)]
  exact law1 hl hok hB hx st hp (by omega)
theorem law0t {l : List Int} (hl : l.length ≤ 1048576) {src dst p q : Int} {x : List Int} {pos : Int} (st : Int) (hp : 0 ≤ pos) {k : Nat} (hk : l.length + 100000 ≤ k) : laws_FnOneBit.j0 (k + 1) l src dst true l pos st p q x = some true := by
  rw [laws_FnOneBit.j0, if_pos rfl]
  obtain ⟨r, p1, s1, e, h0, h1, hp1⟩ := lwn_f hl st (n := 99) hp (by omega) (by omega)
  rw [e, Option.bind_some]
  obtain ⟨r2, p2, s2, e, h2, h3, hp2⟩ := lwn_f hl s1 (n := 50) hp1 (by omega) (by omega)
  rw [e, Option.bind_some]
  obtain ⟨b, e, hb, hB⟩ := pat_f (a := r) (n := r2) (by omega) (by omega) (k := k) (by omega)
  rw [e, Option.bind_some]
  have hok : udok 7 9 167772161 167772162 := by decide
  have hul := uout_len 167772161 167772162 7 9 b
  have eg : gudp 7 9 b 167772161 167772162 = ((uout 167772161 167772162 7 9 b).1, 0) := by
    unfold gudp
    rw [if_pos hok, if_neg (by omega)]
    exact Prod.ext rfl (uout_ok _ _ _ _ b)
  obtain ⟨k, rfl⟩ : ∃ m, k = m + 1 := ⟨k - 1, by omega⟩
  rw [(udp_f hB (by omega) 7 9 167772161 167772162 (by omega)).2, eg, Option.bind_some]
  simp only [if_true]
  rw [wr64 (a := 8 + (b.length : Int)) (by omega), bne_eq_false_iff_eq.mpr (show ((uout 167772161 167772162 7 9 b).1.length : Int) = 8 + (b.length : Int) by omega)]
  exact law1 hl hok hB (by omega) s2 hp2 (by omega)
theorem FnOneBit : laws_FnOneBit.Pure := by
  intro l hm _ hw
  by_cases hl : (l.length : Int) > 1048576
  · refine ⟨1, ?_⟩
    unfold laws_FnOneBit.f
    rw [if_pos hl]
  · refine ⟨l.length + 200000 + 1, ?_⟩
    have hl2 : l.length ≤ 1048576 := by omega
    unfold laws_FnOneBit.f
    rw [if_neg hl]
    obtain ⟨st, e⟩ := lwb_f hl2 6 (k := l.length + 200000 + 1) (by omega)
    rw [e, Option.bind_some]
    obtain ⟨p, q, x, s, d, e, hx, hB⟩ := draw_f hl2 (k := l.length + 200000 + 1) (by omega)
    rw [e, Option.bind_some]
    simp only
    rw [(udp_f hB (by omega) p q s d (by omega)).1, Option.bind_some]
    by_cases h0 : (gudp p q x s d).2 = 0
    · rw [if_pos h0]
      by_cases h2 : (x.length : Int) > 2000
      · rw [decide_eq_true h2]
        exact law0t hl2 st (by omega) (by omega)
      · rw [decide_eq_false h2]
        exact law0f hl2 hB (by omega) (good_u h0).1 st (by omega) (by omega)
    · rw [if_neg h0]
      exact law0t hl2 st (by omega) (by omega)

end Go.Proofs.Ytfllcmeakcbiaaa.Pure
