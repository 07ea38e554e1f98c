/- Of a drawn packet that may be complained about, the complaint is a packet to its sender from the given address that tells, read back through bytes, its protocol, addresses, number and ports, and nobody may complain about that; of one that may not be there is none; without conditions. -/
import Derived.Test.YtckhadlmhbhngaaPFnComplainx19
set_option linter.unusedVariables false
set_option linter.unusedSimpArgs false
namespace Go.Proofs.Ytckhadlmhbhngaa.Pure
open Go.RowKit Go.Proofs.Ytckhadlmhbhngaa.PFnComplain Go.Proofs.YtckhadlmhbhngaaW.PrintWords Go.Proofs.YtckhadlmhbhngaaW.PrintLast

/-! ### base -/
theorem wf64 {a : Int} (h : (Lit.int .i64 a).wf = true) : -9223372036854775808 ≤ a ∧ a ≤ 9223372036854775807 := by
  have h1 : IntKind.i64.min = -9223372036854775808 := by decide
  have h2 : IntKind.i64.max = 9223372036854775807 := by decide
  simp only [Lit.wf, Bool.and_eq_true, decide_eq_true_eq] at h
  omega
theorem tm_pos {a : Int} (n : Int) (h : 0 ≤ a) : Int.tmod a n = a % n := Int.tmod_eq_emod_of_nonneg h
theorem tm_neg {a : Int} (n : Int) (h : a ≤ 0) : Int.tmod a n = -((-a) % n) := by
  have := Int.neg_tmod (-a) n
  rw [Int.neg_neg] at this
  rw [this, Int.tmod_eq_emod_of_nonneg (by omega)]
theorem td_pos {a : Int} (n : Int) (h : 0 ≤ a) : Int.tdiv a n = a / n := Int.tdiv_eq_ediv_of_nonneg h
theorem wr64 {a : Int} (h : -9223372036854775808 ≤ a ∧ a ≤ 9223372036854775807) : wrap64 a = a := by
  unfold wrap64
  omega
theorem dec_eq {p : Prop} [Decidable p] {b : Bool} (h : b = true ↔ p) : some b = some (decide p) := by
  rw [Option.some.injEq, Bool.eq_iff_iff, decide_eq_true_eq]
  exact h
theorem ite_dec (p q : Prop) [Decidable p] [Decidable q] : (if p then some (decide q) else some false) = some (decide (p ∧ q)) := by
  by_cases h : p <;> simp [h]
theorem beq_dec (a b : Int) : (a == b) = decide (a = b) := by
  rw [Bool.eq_iff_iff]
  simp

/-! ### bits -/
theorem wraps_i64 (n : Int) (h₀ : 0 ≤ n) (h₁ : n < 2 ^ 63) : IntKind.i64.wrap n = n := by rw [IntKind.wrap_i64]; omega
/-- The low bits of any whole number. -/
theorem and_low (i : Nat) (hi : i ≤ 62) (x : Int) : Go.bits .and .i64 x (2 ^ i - 1) = x % 2 ^ i := by
  have hpos : 0 < 2 ^ i := Nat.two_pow_pos i
  have h62 : 2 ^ i ≤ 2 ^ 62 := Nat.pow_le_pow_right (by decide) hi
  have hc : ((2 : Int) ^ i - 1) = ((2 ^ i - 1 : Nat) : Int) := by
    rw [Int.natCast_sub hpos]; simp
  have hx0 : 0 ≤ x % 18446744073709551616 := Int.emod_nonneg _ (by decide)
  have hx : (BitVec.ofInt 64 x).toNat = (x % 18446744073709551616).toNat := by rw [BitVec.toNat_ofInt]; rfl
  have hd : ((2 : Int) ^ i) ∣ 18446744073709551616 := by
    rw [show (18446744073709551616 : Int) = 2 ^ 64 from rfl]
    exact ⟨2 ^ (64 - i), by rw [← Int.pow_add, show i + (64 - i) = 64 from by omega]⟩
  have h2 : ((x % 18446744073709551616).toNat % 2 ^ i : Nat) = (x % 2 ^ i).toNat := by
    apply Int.ofNat.inj
    have e1 : (((x % 18446744073709551616).toNat % 2 ^ i : Nat) : Int) = x % 2 ^ i := by
      rw [Int.natCast_emod, Int.toNat_of_nonneg hx0, Int.natCast_pow]
      exact Int.emod_emod_of_dvd _ hd
    have e2 : 0 ≤ x % 2 ^ i := Int.emod_nonneg _ (by have : (0 : Int) < 2 ^ i := Int.pow_pos (by decide); omega)
    exact e1.trans (Int.toNat_of_nonneg e2).symm
  have e2 : 0 ≤ x % 2 ^ i := Int.emod_nonneg _ (by have : (0 : Int) < 2 ^ i := Int.pow_pos (by decide); omega)
  have e3 : x % 2 ^ i < 2 ^ i := Int.emod_lt_of_pos _ (Int.pow_pos (by decide))
  have e4 : (2 : Int) ^ i ≤ 2 ^ 62 := by exact_mod_cast h62
  have key : Go.bits .and .i64 x (2 ^ i - 1) = IntKind.i64.wrap (((BitVec.ofInt 64 x).toNat &&& (BitVec.ofInt 64 ((2 ^ i - 1 : Nat) : Int)).toNat : Nat) : Int) := by
    rw [hc]
    show IntKind.i64.wrap ((BitVec.ofInt 64 x &&& BitVec.ofInt 64 ((2 ^ i - 1 : Nat) : Int)).toNat : Int) = _
    rw [BitVec.toNat_and]
  rw [key, hx]
  have hm : (BitVec.ofInt 64 ((2 ^ i - 1 : Nat) : Int)).toNat = 2 ^ i - 1 := by
    rw [BitVec.ofInt_natCast, BitVec.toNat_ofNat]
    exact Nat.mod_eq_of_lt (by omega)
  rw [hm, Nat.and_two_pow_sub_one_eq_mod, h2, Int.toNat_of_nonneg e2]
  exact wraps_i64 _ e2 (by omega)
theorem and_65535 (x : Int) : Go.bits .and .i64 x 65535 = x % 65536 := and_low 16 (by decide) x
theorem and_255 (x : Int) : Go.bits .and .i64 x 255 = x % 256 := and_low 8 (by decide) x
theorem nat_and_high (a n : Nat) (ha : a < 2 ^ 32) (hn : n ≤ 32) : a &&& ((2 ^ (32 - n) - 1) * 2 ^ n) = a / 2 ^ n * 2 ^ n := by
  apply Nat.eq_of_testBit_eq
  intro i
  rw [Nat.testBit_and, Nat.testBit_mul_two_pow, Nat.testBit_mul_two_pow, Nat.testBit_div_two_pow, Nat.testBit_two_pow_sub_one]
  by_cases h : n ≤ i
  · simp only [h, decide_true, Bool.true_and]
    rw [show i - n + n = i from by omega]
    by_cases h3 : i - n < 32 - n
    · simp [h3]
    · have : a.testBit i = false := Nat.testBit_lt_two_pow (Nat.lt_of_lt_of_le ha (Nat.pow_le_pow_right (by decide) (by omega)))
      simp [this]
  · simp [h]
theorem and_high (a : Int) (n : Nat) (h0 : 0 ≤ a) (h1 : a ≤ 4294967295) (hn : n ≤ 32) : Go.bits .and .i64 a ((2 ^ (32 - n) - 1) * 2 ^ n) = a / 2 ^ n * 2 ^ n := by
  obtain ⟨b, rfl⟩ := Int.eq_ofNat_of_zero_le h0
  have hc : (((2 : Int) ^ (32 - n) - 1) * 2 ^ n) = (((2 ^ (32 - n) - 1) * 2 ^ n : Nat) : Int) := by
    rw [Int.natCast_mul, Int.natCast_sub (Nat.two_pow_pos _)]; simp
  have hl : (2 ^ (32 - n) - 1) * 2 ^ n ≤ 4294967295 := by
    rw [Nat.sub_mul, ← Nat.pow_add, show 32 - n + n = 32 from by omega]
    have := Nat.two_pow_pos n
    omega
  rw [hc, (bits_nat .i64 63 (by decide) wraps_i64 b _ (by omega) (by omega)).1, nat_and_high b n (by omega) hn]
  simp

/-! ### addr0 -/
theorem in_f (a l h : Int) : spec_l01In.f a l h = some (decide (l ≤ a ∧ a ≤ h)) := by
  unfold spec_l01In.f
  by_cases h1 : a ≥ l
  · rw [if_pos h1]; congr 1; rw [decide_eq_decide]; omega
  · rw [if_neg h1]; congr 1; rw [eq_comm, decide_eq_false_iff_not]; omega

/-! ### addr -/
theorem addrOK_f (a : Int) : spec_l02AddrOK.f a = some (decide (0 ≤ a ∧ a ≤ 4294967295)) := by
  unfold spec_l02AddrOK.f
  rw [in_f]
  rfl
theorem isAddr_f (a : Int) : impl_isAddr.f a = some (decide (0 ≤ a ∧ a ≤ 4294967295)) := by
  unfold impl_isAddr.f
  by_cases h1 : a ≥ 0
  · rw [if_pos h1]; congr 1; rw [decide_eq_decide]; omega
  · rw [if_neg h1]; congr 1; rw [eq_comm, decide_eq_false_iff_not]; omega

/-! ### lists -/
theorem rd_at {xs : List Int} {i : Nat} (h : i < xs.length) : rd xs (i : Int) = xs[i] := by
  unfold rd
  rw [Int.toNat_natCast, List.getD_eq_getElem?_getD, List.getElem?_eq_getElem h]
  rfl
theorem wr_succ {i n : Nat} (h : i < n) (hn : n ≤ 281474976710656) : wrap64 ((i : Int) + 1) = ((i + 1 : Nat) : Int) := by
  rw [wr64 (by omega)]
  omega
theorem maxLen_le {n : Nat} (h : n ≤ 1048576) : n ≤ 281474976710656 := by omega

/-! ### l01copy -/
theorem copy_l (x0 : List Int) (hn : x0.length ≤ 1048576) (d : Nat) : ∀ (k i : Nat), i + d = x0.length → d < k → spec_l01Copy.l0 k x0 (x0.take i) (i : Int) = some x0 := by
  induction d with
  | zero =>
    intro k i hi hk
    obtain ⟨k, rfl⟩ : ∃ m, k = m + 1 := ⟨k - 1, by omega⟩
    simp only [spec_l01Copy.l0]
    rw [if_neg (by omega), List.take_of_length_le (by omega)]
  | succ d ih =>
    intro k i hi hk
    obtain ⟨k, rfl⟩ : ∃ m, k = m + 1 := ⟨k - 1, by omega⟩
    simp only [spec_l01Copy.l0]
    rw [if_pos (by omega), if_pos (by omega), if_pos (by rw [List.length_take]; omega), wr_succ (n := x0.length) (by omega) (by omega), rd_at (by omega), ← List.take_succ_eq_append_getElem (by omega)]
    exact ih k (i + 1) (by omega) (by omega)
theorem copy_f {l : List Int} (hn : l.length ≤ 1048576) {k : Nat} (hk : l.length < k) : spec_l01Copy.f k l = some l := copy_l l hn l.length k 0 (by omega) hk

/-! ### l01join -/
theorem join_l (a x1 : List Int) (ha : a.length ≤ 1048576) (hn : x1.length ≤ 1048576) (d : Nat) : ∀ (k i : Nat), i + d = x1.length → d < k → spec_l01Join.l0 k x1 (a ++ x1.take i) (i : Int) = some (a ++ x1) := by
  induction d with
  | zero =>
    intro k i hi hk
    obtain ⟨k, rfl⟩ : ∃ m, k = m + 1 := ⟨k - 1, by omega⟩
    simp only [spec_l01Join.l0]
    rw [if_neg (by omega), List.take_of_length_le (by omega)]
  | succ d ih =>
    intro k i hi hk
    obtain ⟨k, rfl⟩ : ∃ m, k = m + 1 := ⟨k - 1, by omega⟩
    simp only [spec_l01Join.l0]
    rw [if_pos (by omega), if_pos (by omega), if_pos (by rw [List.length_append, List.length_take]; omega), wr_succ (n := x1.length) (by omega) (by omega), rd_at (by omega), List.append_assoc, ← List.take_succ_eq_append_getElem (by omega)]
    exact ih k (i + 1) (by omega) (by omega)
theorem join_f {a b : List Int} (ha : a.length ≤ 1048576) (hb : b.length ≤ 1048576) {k : Nat} (hk : a.length < k) (hk2 : b.length < k) : spec_l01Join.f k a b = some (a ++ b) := by
  unfold spec_l01Join.f
  rw [copy_f ha hk]
  have := join_l a b ha hb b.length k 0 (by omega) hk2
  simpa using this

/-! ### wsum -/
/-- What a sum of numbers of two bytes folds to. -/
def fold (s : Int) : Int := if s = 0 then 0 else (s - 1) % 65535 + 1
theorem fold_le (s : Int) (h : 0 ≤ s) : 0 ≤ fold s ∧ fold s ≤ 65535 := by unfold fold; split <;> omega
theorem fold_low {s : Int} (h : 0 ≤ s ∧ s ≤ 65535) : fold s = s := by unfold fold; split <;> omega
theorem fold_step {s : Int} (h : s > 65535) : fold (s / 65536 + s % 65536) = fold s := by
  unfold fold
  rw [if_neg (by omega), if_neg (by omega)]
  omega
theorem fold_sub {s : Int} (h : s > 65535) : fold (s - 65535) = fold s := by
  unfold fold
  rw [if_neg (by omega), if_neg (by omega)]
  omega
/-- The sum of bytes: the one at a place with 'b' counts 256 times, and so on in turn. -/
def wsp : Bool → List Int → Int
  | _, [] => 0
  | true, a :: r => a * 256 + wsp false r
  | false, a :: r => a + wsp true r
/-- All are bytes. -/
def Bs (l : List Int) : Prop := ∀ x ∈ l, 0 ≤ x ∧ x ≤ 255
theorem Bs.get {l : List Int} (h : Bs l) {i : Nat} (hi : i < l.length) : 0 ≤ l[i] ∧ l[i] ≤ 255 := h _ (List.getElem_mem hi)
theorem Bs.of {l : List Int} (h : ∀ x ∈ l, (Lit.int .u8 x).wf = true) : Bs l := by
  intro x hx
  have hw := h x hx
  have h1 : IntKind.u8.min = 0 := by decide
  have h2 : IntKind.u8.max = 255 := by decide
  simp only [Lit.wf, Bool.and_eq_true, decide_eq_true_eq] at hw
  omega
theorem Bs.append {a b : List Int} (ha : Bs a) (hb : Bs b) : Bs (a ++ b) := by
  intro x hx
  rcases List.mem_append.1 hx with h | h
  · exact ha x h
  · exact hb x h
theorem Bs.take {l : List Int} (h : Bs l) (n : Nat) : Bs (l.take n) := fun x hx => h x (List.mem_of_mem_take hx)
theorem Bs.drop {l : List Int} (h : Bs l) (n : Nat) : Bs (l.drop n) := fun x hx => h x (List.mem_of_mem_drop hx)
theorem Bs.tail {a : Int} {l : List Int} (h : Bs (a :: l)) : Bs l := fun x hx => h x (List.mem_cons_of_mem _ hx)
theorem wsp_bd (l : List Int) : ∀ (b : Bool), Bs l → 0 ≤ wsp b l ∧ wsp b l ≤ 65280 * (l.length : Int) := by
  induction l with
  | nil => intro b _; cases b <;> simp [wsp]
  | cons a r ih =>
    intro b h
    have ha := h a (List.mem_cons_self ..)
    have h1 := ih true h.tail
    have h2 := ih false h.tail
    cases b <;> (simp only [wsp, List.length_cons]; omega)
theorem drop_cons {l : List Int} {i : Nat} (h : i < l.length) : l.drop i = l[i] :: l.drop (i + 1) := List.drop_eq_getElem_cons h
/-- The checksum of bytes. -/
def csum (l : List Int) : Int := 65535 - fold (wsp true l)
theorem csum_le {l : List Int} (h : Bs l) : 0 ≤ csum l ∧ csum l ≤ 65535 := by
  have := fold_le _ (wsp_bd l true h).1
  unfold csum
  omega

/-! ### specsum -/
theorem ssum_l (l : List Int) (hb : Bs l) (hn : l.length ≤ 1048576) (d : Nat) : ∀ (k i : Nat) (s : Int), l.length - i ≤ d → d < k → 0 ≤ s → s ≤ 65535 → i ≤ l.length + 1 → spec_l01Sum.l0 k l s (i : Int) = some (fold (s + wsp true (l.drop i))) := by
  induction d with
  | zero =>
    intro k i s hi hk h0 h1 hl
    obtain ⟨k, rfl⟩ : ∃ m, k = m + 1 := ⟨k - 1, by omega⟩
    simp only [spec_l01Sum.l0]
    rw [if_neg (by omega), List.drop_eq_nil_of_le (by omega)]
    simp only [wsp, Int.add_zero]
    rw [fold_low ⟨h0, h1⟩]
  | succ d ih =>
    intro k i s hi hk h0 h1 hl
    obtain ⟨k, rfl⟩ : ∃ m, k = m + 1 := ⟨k - 1, by omega⟩
    simp only [spec_l01Sum.l0]
    by_cases c1 : i < l.length
    · have b1 := hb.get c1
      rw [if_pos (by omega), if_pos (by omega), wr64 (a := (i : Int) + 1) (by omega), rd_at c1, wr64 (a := l[i]) (by omega), wr64 (a := l[i] * 256) (by omega), drop_cons c1]
      by_cases c2 : i + 1 < l.length
      · have b2 := hb.get c2
        have bd := wsp_bd (l.drop (i + 1 + 1)) true (hb.drop _)
        rw [if_pos (by omega), if_pos (by omega), show (i : Int) + 1 = ((i + 1 : Nat) : Int) from by omega, rd_at c2, wr64 (a := l[i + 1]) (by omega), wr64 (a := l[i] * 256 + l[i + 1]) (by omega), wr64 (a := s + (l[i] * 256 + l[i + 1])) (by omega), wr64 (a := (i : Int) + 2) (by omega), show (i : Int) + 2 = ((i + 1 + 1 : Nat) : Int) from by omega, drop_cons c2]
        simp only [wsp]
        by_cases c3 : s + (l[i] * 256 + l[i + 1]) > 65535
        · rw [if_pos c3, wr64 (by omega), ih k _ _ (by omega) (by omega) (by omega) (by omega) (by omega)]
          rw [← fold_sub (s := s + (l[i] * 256 + (l[i + 1] + wsp true (l.drop (i + 1 + 1))))) (by omega)]
          congr 2
          omega
        · rw [if_neg c3, ih k _ _ (by omega) (by omega) (by omega) (by omega) (by omega)]
          congr 2
          omega
      · rw [if_neg (by omega), wr64 (a := s + l[i] * 256) (by omega), wr64 (a := (i : Int) + 2) (by omega), show (i : Int) + 2 = ((i + 2 : Nat) : Int) from by omega, List.drop_eq_nil_of_le (show l.length ≤ i + 1 by omega)]
        have e2 : l.drop (i + 2) = [] := List.drop_eq_nil_of_le (by omega)
        simp only [wsp, Int.add_zero]
        by_cases c3 : s + l[i] * 256 > 65535
        · rw [if_pos c3, wr64 (by omega), ih k _ _ (by omega) (by omega) (by omega) (by omega) (by omega), e2]
          simp only [wsp, Int.add_zero]
          rw [← fold_sub (s := s + l[i] * 256) c3]
        · rw [if_neg c3, ih k _ _ (by omega) (by omega) (by omega) (by omega) (by omega), e2]
          simp only [wsp, Int.add_zero]
    · rw [if_neg (by omega), List.drop_eq_nil_of_le (by omega)]
      simp only [wsp, Int.add_zero]
      rw [fold_low ⟨h0, h1⟩]
theorem scheck_f {l : List Int} (hb : Bs l) (hn : l.length ≤ 1048576) {k : Nat} (hk : l.length < k) : spec_Checksum.f k l = some (csum l) := by
  unfold spec_Checksum.f spec_l01Sum.f
  have h := ssum_l l hb hn l.length k 0 0 (by omega) hk (by omega) (by omega) (by omega)
  rw [show ((0 : Nat) : Int) = 0 from rfl] at h
  have bd := wsp_bd l true hb
  have fl := fold_le _ bd.1
  rw [h]
  simp only [Option.bind_some, List.drop_zero, Int.zero_add]
  rw [wr64 (by omega)]
  rfl

/-! ### be -/
/-- The low n bytes of a number, the high one first. -/
def be : Nat → Int → List Int
  | 0, _ => []
  | n + 1, v => (v / 2 ^ (8 * n) % 256) :: be n v
theorem be_len (n : Nat) (v : Int) : (be n v).length = n := by
  induction n with
  | zero => rfl
  | succ n ih => simp [be, ih]

/-! ### specput -/
theorem sput_l (v : Int) (n : Nat) : ∀ (k : Nat) (x : List Int), n ≤ 8 → x.length + n ≤ 1048576 → n < k → spec_l03Put.l0 k v x ((n : Int) - 1) = some (x ++ be n v) := by
  induction n with
  | zero =>
    intro k x hn hx hk
    obtain ⟨k, rfl⟩ : ∃ m, k = m + 1 := ⟨k - 1, by omega⟩
    simp only [spec_l03Put.l0]
    rw [if_neg (by omega)]
    simp [be]
  | succ n ih =>
    intro k x hn hx hk
    obtain ⟨k, rfl⟩ : ∃ m, k = m + 1 := ⟨k - 1, by omega⟩
    simp only [spec_l03Put.l0]
    have h8 : IntKind.u64.wrap (wrap64 (8 * (((n + 1 : Nat) : Int) - 1))) = ((8 * n : Nat) : Int) := by
      rw [wr64 (by omega)]
      simp only [IntKind.wrap, IntKind.bits, IntKind.signed]
      simp
      omega
    rw [if_pos (by omega), h8, if_pos (by omega), if_pos (by omega), wr64 (by omega), show ((n + 1 : Nat) : Int) - 1 - 1 = (n : Int) - 1 from by omega]
    rw [ih k _ (by omega) (by simp; omega) (by omega)]
    unfold shr
    rw [show min ((8 * n : Nat) : Int).toNat IntKind.i64.bits = 8 * n from by rw [Int.toNat_natCast]; show min (8 * n) 64 = 8 * n; omega]
    simp [be, List.append_assoc]
theorem sput_f {v : Int} {n : Nat} (hn : n ≤ 8) {k : Nat} (hk : n < k) : spec_l03Put.f k v (n : Int) = some (be n v) := by
  unfold spec_l03Put.f
  rw [wr64 (by omega), sput_l v n k [] hn (by simp; omega) hk]
  rfl

/-! ### carried -/
theorem wrap_u64 (n : Int) : IntKind.u64.wrap n = n % 18446744073709551616 := by simp [IntKind.wrap, IntKind.bits, IntKind.signed]
theorem wru {x : Int} (h : 0 ≤ x ∧ x < 18446744073709551616) : IntKind.u64.wrap x = x := by rw [wrap_u64]; omega
theorem wraps_u64 (n : Int) (h₀ : 0 ≤ n) (h₁ : n < 2 ^ 63) : IntKind.u64.wrap n = n := by rw [wrap_u64]; omega
theorem low_u64 (i : Nat) (hi : i ≤ 62) (x : Int) (h0 : 0 ≤ x) (h1 : x < 18446744073709551616) : Go.bits .and .u64 x (2 ^ i - 1) = x % 2 ^ i := by
  obtain ⟨a, rfl⟩ := Int.eq_ofNat_of_zero_le h0
  have hpos : 0 < 2 ^ i := Nat.two_pow_pos i
  have h62 : 2 ^ i ≤ 2 ^ 62 := Nat.pow_le_pow_right (by decide) hi
  have hc : ((2 : Int) ^ i - 1) = ((2 ^ i - 1 : Nat) : Int) := by
    rw [Int.natCast_sub hpos]; simp
  have hw : ∀ n : Int, 0 ≤ n → n < 2 ^ 64 → IntKind.u64.wrap n = n := fun n a b => by rw [wrap_u64]; omega
  rw [hc, (bits_nat .u64 64 (by decide) hw a _ (by omega) (by omega)).1, Nat.and_two_pow_sub_one_eq_mod]
  simp
theorem u64_65535 (x : Int) (h0 : 0 ≤ x) (h1 : x < 18446744073709551616) : Go.bits .and .u64 x 65535 = x % 65536 := low_u64 16 (by decide) x h0 h1
theorem not_u64 (x : Int) (h0 : 0 ≤ x) (h1 : x < 18446744073709551616) : Go.bits .xor .u64 18446744073709551615 x = 18446744073709551615 - x := by
  obtain ⟨a, rfl⟩ := Int.eq_ofNat_of_zero_le h0
  have key : Go.bits .xor .u64 18446744073709551615 (a : Int) = IntKind.u64.wrap ((BitVec.ofInt 64 18446744073709551615 ^^^ BitVec.ofInt 64 (a : Int)).toNat : Int) := rfl
  rw [key, show BitVec.ofInt 64 18446744073709551615 = BitVec.allOnes 64 from by decide, BitVec.allOnes_xor, BitVec.toNat_not, BitVec.ofInt_natCast, BitVec.toNat_ofNat, wrap_u64]
  omega
theorem not_i64 (x : Int) (h : -9223372036854775808 ≤ x ∧ x ≤ 9223372036854775807) : Go.bits .xor .i64 (-1) x = -1 - x := by
  have key : Go.bits .xor .i64 (-1) x = IntKind.i64.wrap ((BitVec.ofInt 64 (-1) ^^^ BitVec.ofInt 64 x).toNat : Int) := rfl
  rw [key, show BitVec.ofInt 64 (-1) = BitVec.allOnes 64 from by decide, BitVec.allOnes_xor, BitVec.toNat_not, BitVec.toNat_ofInt, IntKind.wrap_i64]
  omega
theorem carried_f {s : Int} (h0 : 0 ≤ s) (h1 : s < 281474976710656) {k : Nat} (hk : 8 ≤ k) : impl_carried.f k s = some (fold s) := by
  have h8 : impl_carried.f 8 s = some (fold s) := by
    unfold impl_carried.f
    have step : ∀ (k : Nat) (t : Int), 0 ≤ t → t < 281474976710656 → t > 65535 → impl_carried.l0 (k + 1) t = impl_carried.l0 k (t / 65536 + t % 65536) := by
      intro k t a b c
      simp only [impl_carried.l0]
      rw [if_pos c, u64_65535 _ a (by omega), wrap_u64, Int.emod_eq_of_lt (by omega) (by omega)]
    have stop : ∀ (k : Nat) (t : Int), 0 ≤ t → t ≤ 65535 → impl_carried.l0 (k + 1) t = some (fold t) := by
      intro k t a b
      simp only [impl_carried.l0]
      rw [if_neg (by omega), fold_low ⟨a, b⟩]
    by_cases a1 : s > 65535
    · rw [step 7 s h0 h1 a1, ← fold_step a1]
      generalize hs : s / 65536 + s % 65536 = s1
      have b1 : 0 ≤ s1 ∧ s1 < 4295032832 := by omega
      by_cases a2 : s1 > 65535
      · rw [step 6 s1 (by omega) (by omega) a2, ← fold_step a2]
        generalize hs2 : s1 / 65536 + s1 % 65536 = s2
        have b2 : 0 ≤ s2 ∧ s2 < 196608 := by omega
        by_cases a3 : s2 > 65535
        · rw [step 5 s2 (by omega) (by omega) a3, ← fold_step a3]
          generalize hs3 : s2 / 65536 + s2 % 65536 = s3
          have b3 : 0 ≤ s3 ∧ s3 < 65540 := by omega
          by_cases a4 : s3 > 65535
          · rw [step 4 s3 (by omega) (by omega) a4, ← fold_step a4]
            exact stop 3 _ (by omega) (by omega)
          · exact stop 4 _ (by omega) (by omega)
        · exact stop 5 _ (by omega) (by omega)
      · exact stop 6 _ (by omega) (by omega)
    · exact stop 7 _ (by omega) (by omega)
  exact at_rounds (fun k => impl_carried.mono s k) hk h8

/-! ### implsum -/
theorem isum_l (l : List Int) (hb : Bs l) (hn : l.length ≤ 1048576) (d : Nat) : ∀ (k i : Nat) (s : Int), i + d = l.length → d + 8 < k → 0 ≤ s → s + 65280 * (d : Int) < 281474976710656 → impl_Checksum.l0 k s l (l.length : Int) (i : Int) = some (65535 - fold (s + wsp (i % 2 == 0) (l.drop i))) := by
  induction d with
  | zero =>
    intro k i s hi hk h0 h1
    obtain ⟨k, rfl⟩ : ∃ m, k = m + 1 := ⟨k - 1, by omega⟩
    simp only [impl_Checksum.l0]
    rw [if_neg (by omega), List.drop_eq_nil_of_le (by omega), carried_f h0 (by omega) (by omega)]
    have e : ∀ b, wsp b [] = 0 := fun b => by cases b <;> rfl
    rw [e]
    simp only [Option.bind_some, Int.add_zero]
    have fl := fold_le s h0
    rw [not_u64 _ fl.1 (by omega), u64_65535 _ (by omega) (by omega), wr64 (by omega)]
    congr 1
    omega
  | succ d ih =>
    intro k i s hi hk h0 h1
    obtain ⟨k, rfl⟩ : ∃ m, k = m + 1 := ⟨k - 1, by omega⟩
    have c1 : i < l.length := by omega
    have b1 := hb.get c1
    simp only [impl_Checksum.l0]
    rw [if_pos (by omega), if_pos (by omega), if_pos (by omega), rd_at c1, tm_pos _ (by omega), wr_succ c1 (by omega), drop_cons c1, wrap_u64 l[i], Int.emod_eq_of_lt b1.1 (by omega)]
    by_cases c2 : i % 2 = 0
    · rw [if_pos (by omega), wrap_u64 (l[i] * 256), Int.emod_eq_of_lt (by omega) (by omega), wrap_u64, Int.emod_eq_of_lt (by omega) (by omega), ih k (i + 1) _ (by omega) (by omega) (by omega) (by omega)]
      rw [show (i % 2 == 0) = true from by simp [c2], show ((i + 1) % 2 == 0) = false from by simp; omega]
      simp only [wsp]
      congr 3
      omega
    · rw [if_neg (by omega), wrap_u64, Int.emod_eq_of_lt (by omega) (by omega), ih k (i + 1) _ (by omega) (by omega) (by omega) (by omega)]
      rw [show (i % 2 == 0) = false from by simp; omega, show ((i + 1) % 2 == 0) = true from by simp; omega]
      simp only [wsp]
      congr 3
      omega
theorem icheck_f {l : List Int} (hb : Bs l) (hn : l.length ≤ 1048576) {k : Nat} (hk : l.length + 8 < k) : impl_Checksum.f k l = some (csum l) := by
  unfold impl_Checksum.f
  have h := isum_l l hb hn l.length k 0 0 (by omega) hk (by omega) (by omega)
  rw [show ((0 : Nat) : Int) = 0 from rfl] at h
  rw [h]
  simp only [List.drop_zero, Int.zero_add]
  rfl

/-! ### implput -/
theorem iput_l (v : Int) (n : Nat) : ∀ (k : Nat) (x : List Int), n ≤ 8 → x.length + n ≤ 1048576 → n < k → impl_put.l0 k x v ((n : Int) - 1) = some (x ++ be n v) := by
  induction n with
  | zero =>
    intro k x hn hx hk
    obtain ⟨k, rfl⟩ : ∃ m, k = m + 1 := ⟨k - 1, by omega⟩
    simp only [impl_put.l0]
    rw [if_neg (by omega)]
    simp [be]
  | succ n ih =>
    intro k x hn hx hk
    obtain ⟨k, rfl⟩ : ∃ m, k = m + 1 := ⟨k - 1, by omega⟩
    simp only [impl_put.l0]
    have h8 : wrap64 (8 * (((n + 1 : Nat) : Int) - 1)) = ((8 * n : Nat) : Int) := by
      rw [wr64 (by omega)]
      omega
    rw [if_pos (by omega), h8, if_pos (by omega), if_pos (by omega), wr64 (by omega), show ((n + 1 : Nat) : Int) - 1 - 1 = (n : Int) - 1 from by omega]
    rw [ih k _ (by omega) (by simp; omega) (by omega)]
    unfold shr
    rw [show min ((8 * n : Nat) : Int).toNat IntKind.u64.bits = 8 * n from by rw [Int.toNat_natCast]; show min (8 * n) 64 = 8 * n; omega]
    have hw : IntKind.u64.wrap v = v % 18446744073709551616 := by simp [IntKind.wrap, IntKind.bits, IntKind.signed]
    have hb : v % 18446744073709551616 / 2 ^ (8 * n) % 256 = v / 2 ^ (8 * n) % 256 := by
      rcases (show n = 0 ∨ n = 1 ∨ n = 2 ∨ n = 3 ∨ n = 4 ∨ n = 5 ∨ n = 6 ∨ n = 7 by omega) with rfl | rfl | rfl | rfl | rfl | rfl | rfl | rfl <;> simp <;> omega
    rw [hw, hb]
    simp [be, List.append_assoc]
theorem iput_f {l : List Int} {v : Int} {n : Nat} (hn : n ≤ 8) (hl : l.length + n ≤ 1048576) {k : Nat} (hk : n < k) : impl_put.f k l (n : Int) v = some (l ++ be n v) := by
  unfold impl_put.f
  rw [wr64 (by omega), iput_l v n k l hn hl hk]

/-! ### num -/
/-- The number that bytes behind a number tell, the high one first. -/
def numa : Int → List Int → Int
  | a, [] => a
  | a, b :: r => numa (a * 256 + b) r
theorem pow_le6 {i : Nat} (h : i ≤ 6) : (2 : Int) ^ (8 * i) ≤ 281474976710656 := by
  rcases (show i = 0 ∨ i = 1 ∨ i = 2 ∨ i = 3 ∨ i = 4 ∨ i = 5 ∨ i = 6 by omega) with rfl | rfl | rfl | rfl | rfl | rfl | rfl <;> decide
theorem pow_8 (i : Nat) : (2 : Int) ^ (8 * (i + 1)) = 2 ^ (8 * i) * 256 := by
  rw [show 8 * (i + 1) = 8 * i + 8 from by omega, Int.pow_add]
  rfl
theorem numa_bd (l : List Int) : ∀ (i : Nat) (a : Int), Bs l → 0 ≤ a → a < 2 ^ (8 * i) → 0 ≤ numa a l ∧ numa a l < 2 ^ (8 * (i + l.length)) := by
  induction l with
  | nil => intro i a _ h0 h1; exact ⟨h0, h1⟩
  | cons b r ih =>
    intro i a hb h0 h1
    have hb0 := hb b (List.mem_cons_self ..)
    have e := pow_8 i
    have := ih (i + 1) (a * 256 + b) hb.tail (by omega) (by omega)
    rw [show i + 1 + r.length = i + (b :: r).length from by simp; omega] at this
    exact this

/-! ### implget -/
theorem or_byte {s b : Int} (h0 : 0 ≤ s) (h1 : s < 281474976710656) (hb : 0 ≤ b ∧ b ≤ 255) : Go.bits .or .i64 (s * 256) b = s * 256 + b :=
  bits_join .i64 63 (by decide) wraps_i64 8 (s * 256) b (by omega) (by omega) (by omega) hb.1 (by omega) (by omega)
theorem iget_l (l : List Int) (hb : Bs l) (hn : l.length ≤ 7) (d : Nat) : ∀ (k i : Nat) (s : Int), i + d = l.length → d < k → 0 ≤ s → s < 2 ^ (8 * i) → impl_get.l0 k s l (l.length : Int) (i : Int) = some (numa s (l.drop i)) := by
  induction d with
  | zero =>
    intro k i s hi hk h0 h1
    obtain ⟨k, rfl⟩ : ∃ m, k = m + 1 := ⟨k - 1, by omega⟩
    simp only [impl_get.l0]
    rw [if_neg (by omega), List.drop_eq_nil_of_le (by omega)]
    rfl
  | succ d ih =>
    intro k i s hi hk h0 h1
    obtain ⟨k, rfl⟩ : ∃ m, k = m + 1 := ⟨k - 1, by omega⟩
    have c1 : i < l.length := by omega
    have b1 := hb.get c1
    have p1 := pow_le6 (i := i) (by omega)
    have p2 := pow_8 i
    simp only [impl_get.l0]
    rw [if_pos (by omega), if_pos (by omega), if_pos (by omega), rd_at c1, wr64 (a := l[i]) (by omega), wr64 (a := s * 256) (by omega), or_byte h0 (by omega) b1, wr_succ c1 (by omega), ih k (i + 1) _ (by omega) (by omega) (by omega) (by omega), drop_cons c1]
    rfl
theorem iget_f {l : List Int} (hb : Bs l) (hn : l.length ≤ 7) {k : Nat} (hk : l.length < k) : impl_get.f k l = some (numa 0 l) := by
  unfold impl_get.f
  have := iget_l l hb hn l.length k 0 0 (by omega) hk (by omega) (by decide)
  simpa using this

/-! ### dup -/
theorem dup_f {l : List Int} (h : l.length ≤ 1048576) : impl_dup.f l = some l := by
  unfold impl_dup.f
  rw [if_pos (by simp; omega)]
  rfl

/-! ### bebytes -/
theorem be_bytes (n : Nat) (v : Int) : Bs (be n v) := by
  induction n with
  | zero => intro x hx; cases hx
  | succ n ih =>
    intro x hx
    rcases List.mem_cons.1 hx with rfl | h
    · omega
    · exact ih x h

/-! ### kind -/
theorem kind_eq (a : Int) : spec_AddrKind.f a = impl_AddrKind.f a := by
  unfold spec_AddrKind.f impl_AddrKind.f
  rw [addrOK_f, isAddr_f]
  simp only [Option.bind_some]
  by_cases h : 0 ≤ a ∧ a ≤ 4294967295
  · simp only [h, and_self, decide_true, if_true]
    repeat' split
    all_goals first | rfl | omega
  · simp [h]
theorem kind_some (a : Int) : ∃ r, impl_AddrKind.f a = some r := by
  unfold impl_AddrKind.f
  rw [isAddr_f]
  simp only [Option.bind_some]
  repeat' split
  all_goals exact ⟨_, rfl⟩

/-! ### ip -/
theorem tm8 (a : Int) : (Int.tmod a 8 = 0) ↔ a % 8 = 0 := by
  rcases Int.le_total 0 a with h | h
  · rw [tm_pos _ h]
  · rw [tm_neg _ h]
    omega
def okI (tos id off ttl proto src dst : Int) (o : List Int) : Prop := (0 ≤ tos ∧ tos ≤ 255) ∧ (0 ≤ ttl ∧ ttl ≤ 255) ∧ (0 ≤ proto ∧ proto ≤ 255) ∧ (0 ≤ id ∧ id ≤ 65535) ∧ (0 ≤ off ∧ off ≤ 65528) ∧ off % 8 = 0 ∧ (0 ≤ src ∧ src ≤ 4294967295) ∧ (0 ≤ dst ∧ dst ≤ 4294967295) ∧ (o.length : Int) ≤ 40 ∧ (o.length : Int) % 4 = 0
instance (tos id off ttl proto src dst : Int) (o : List Int) : Decidable (okI tos id off ttl proto src dst o) := by unfold okI; exact inferInstance
theorem okI_spec (tos id : Int) (df mf : Bool) (off ttl proto src dst : Int) (o p : List Int) : spec_l05OK.f tos id df mf off ttl proto src dst o p = some (decide (okI tos id off ttl proto src dst o)) := by
  unfold spec_l05OK.f
  simp only [in_f, addrOK_f, Option.bind_some, decide_eq_true_eq, tm8, beq_dec, ite_dec]
  apply dec_eq
  rw [decide_eq_true_eq]
  unfold okI
  omega
theorem okI_impl (tos id : Int) (df mf : Bool) (off ttl proto src dst : Int) (o p : List Int) : impl_okIP.f tos id df mf off ttl proto src dst o p = some (decide (okI tos id off ttl proto src dst o)) := by
  unfold impl_okIP.f
  simp only [isAddr_f, Option.bind_some, decide_eq_true_eq, tm8, beq_dec, ite_dec]
  apply dec_eq
  rw [decide_eq_true_eq]
  unfold okI
  omega

/-! ### ipspec -/
def flg (df mf : Bool) (off : Int) : Int := (if df = true then 16384 else 0) + (if mf = true then 8192 else 0) + off / 8
def ihead (tos id : Int) (df mf : Bool) (off ttl proto src dst : Int) (o p : List Int) : List Int :=
  [(64 + (20 + (o.length : Int)) / 4) % 256, tos % 256] ++ be 2 (20 + (o.length : Int) + (p.length : Int)) ++ be 2 id ++ be 2 (flg df mf off) ++ [ttl % 256, proto % 256, 0, 0] ++ be 4 src ++ be 4 dst ++ o
theorem ihead_len (tos id : Int) (df mf : Bool) (off ttl proto src dst : Int) (o p : List Int) : (ihead tos id df mf off ttl proto src dst o p).length = 20 + o.length := by
  simp [ihead, be_len]
  omega
theorem ihead_bytes (tos id : Int) (df mf : Bool) (off ttl proto src dst : Int) {o : List Int} (p : List Int) (ho : Bs o) : Bs (ihead tos id df mf off ttl proto src dst o p) := by
  unfold ihead
  refine Bs.append (Bs.append (Bs.append (Bs.append (Bs.append (Bs.append (Bs.append ?_ (be_bytes _ _)) (be_bytes _ _)) (be_bytes _ _)) ?_) (be_bytes _ _)) (be_bytes _ _)) ho
  · intro x hx
    simp only [List.mem_cons, List.not_mem_nil, or_false] at hx
    rcases hx with rfl | rfl <;> omega
  · intro x hx
    simp only [List.mem_cons, List.not_mem_nil, or_false] at hx
    rcases hx with rfl | rfl | rfl | rfl <;> omega
def iout (h : List Int) : List Int := (h.set (10 : Int).toNat ((csum h / 256) % 256)).set (11 : Int).toNat (csum h % 256)
theorem iout_len (h : List Int) : (iout h).length = h.length := by simp [iout]
theorem shead_f (tos id : Int) (df mf : Bool) {off : Int} (ttl proto src dst : Int) {o p : List Int} (hoff : 0 ≤ off ∧ off ≤ 65528) (ho : o.length ≤ 40) (hb : Bs o) (hp : p.length ≤ 1048576) {k : Nat} (hk : 200 ≤ k) : spec_l05Head.f k tos id df mf off ttl proto src dst o p = some (iout (ihead tos id df mf off ttl proto src dst o p)) := by
  unfold spec_l05Head.f spec_l05Flag.f
  have hl := ihead_len tos id df mf off ttl proto src dst o p
  have e2 : ∀ v, spec_l03Put.f k v 2 = some (be 2 v) := fun v => sput_f (n := 2) (by omega) (by omega)
  have e4 : ∀ v, spec_l03Put.f k v 4 = some (be 4 v) := fun v => sput_f (n := 4) (by omega) (by omega)
  have hf : wrap64 (wrap64 ((if df = true then (16384 : Int) else 0) + (if mf = true then (8192 : Int) else 0)) + wrap64 (Int.tdiv off 8)) = flg df mf off := by
    rw [td_pos _ hoff.1]
    unfold flg
    cases df <;> cases mf <;> simp only [if_true, if_false, Bool.false_eq_true, wrap64] <;> omega
  rw [wr64 (a := 20 + (o.length : Int)) (by omega), wr64 (a := 20 + (o.length : Int) + (p.length : Int)) (by omega), td_pos (a := 20 + (o.length : Int)) 4 (by omega), wr64 (a := (20 + (o.length : Int)) / 4) (by omega), wr64 (a := 64 + (20 + (o.length : Int)) / 4) (by omega)]
  simp only [e2, e4, Option.bind_some]
  rw [join_f (by simp) (by simp [be_len]) (by simp; omega) (by simp [be_len]; omega)]
  simp only [Option.bind_some]
  rw [join_f (by simp [be_len]) (by simp [be_len]) (by simp [be_len]; omega) (by simp [be_len]; omega)]
  simp only [Option.bind_some]
  rw [show ((if df = true then some (16384 : Int) else some 0) : Option Int) = some (if df = true then 16384 else 0) from by cases df <;> rfl, show ((if mf = true then some (8192 : Int) else some 0) : Option Int) = some (if mf = true then 8192 else 0) from by cases mf <;> rfl]
  simp only [Option.bind_some]
  rw [hf, join_f (by simp [be_len]) (by simp [be_len]) (by simp [be_len]; omega) (by simp [be_len]; omega)]
  simp only [Option.bind_some]
  rw [join_f (by simp [be_len]) (by simp) (by simp [be_len]; omega) (by simp; omega)]
  simp only [Option.bind_some]
  rw [join_f (by simp [be_len]) (by simp [be_len]) (by simp [be_len]; omega) (by simp [be_len]; omega)]
  simp only [Option.bind_some]
  rw [join_f (by simp [be_len]) (by simp [be_len]) (by simp [be_len]; omega) (by simp [be_len]; omega)]
  simp only [Option.bind_some]
  rw [join_f (by simp [be_len]) (by omega) (by simp [be_len]; omega) (by omega)]
  simp only [Option.bind_some]
  rw [show [(64 + (20 + (o.length : Int)) / 4) % 256, tos % 256] ++ be 2 (20 + (o.length : Int) + (p.length : Int)) ++ be 2 id ++ be 2 (flg df mf off) ++ [ttl % 256, proto % 256, 0, 0] ++ be 4 src ++ be 4 dst ++ o = ihead tos id df mf off ttl proto src dst o p from rfl, scheck_f (ihead_bytes _ _ _ _ _ _ _ _ _ _ hb) (by omega) (by omega)]
  simp only [Option.bind_some]
  rw [if_pos (by omega), if_pos (by omega)]
  rfl
def icode (tos id off ttl proto src dst : Int) (o p : List Int) : Int := if okI tos id off ttl proto src dst o then (if 20 + (o.length : Int) + (p.length : Int) > 65535 then 7 else if off + (p.length : Int) > 65535 then 7 else 0) else 1
def iall (tos id : Int) (df mf : Bool) (off ttl proto src dst : Int) (o p : List Int) : List Int × Int := if icode tos id off ttl proto src dst o p = 0 then (iout (ihead tos id df mf off ttl proto src dst o p) ++ p, 0) else ([], icode tos id off ttl proto src dst o p)
theorem icode_zero {tos id off ttl proto src dst : Int} {o p : List Int} (h : icode tos id off ttl proto src dst o p = 0) : okI tos id off ttl proto src dst o ∧ 20 + (o.length : Int) + (p.length : Int) ≤ 65535 ∧ off + (p.length : Int) ≤ 65535 := by
  unfold icode at h
  by_cases h1 : okI tos id off ttl proto src dst o
  · rw [if_pos h1] at h
    refine ⟨h1, ?_⟩
    by_cases h2 : 20 + (o.length : Int) + (p.length : Int) > 65535
    · rw [if_pos h2] at h; omega
    · by_cases h3 : off + (p.length : Int) > 65535
      · rw [if_neg h2, if_pos h3] at h; omega
      · omega
  · rw [if_neg h1] at h; omega
theorem iall_len (tos id : Int) (df mf : Bool) (off ttl proto src dst : Int) (o p : List Int) : (iall tos id df mf off ttl proto src dst o p).1.length ≤ 65535 := by
  unfold iall
  split
  · rename_i h
    have := icode_zero h
    simp only [List.length_append, iout_len, ihead_len]
    omega
  · simp
theorem sip_f (tos id : Int) (df mf : Bool) (off ttl proto src dst : Int) {o p : List Int} (hb : Bs o) (ho : o.length ≤ 1048576) (hp : p.length ≤ 1048576) {k : Nat} (hk : p.length + 300 ≤ k) : spec_EncodeIP.f k tos id df mf off ttl proto src dst o p = some (iall tos id df mf off ttl proto src dst o p) := by
  obtain ⟨k, rfl⟩ : ∃ m, k = m + 1 := ⟨k - 1, by omega⟩
  unfold spec_EncodeIP.f iall icode
  rw [okI_spec]
  simp only [Option.bind_some, decide_eq_true_eq]
  by_cases h1 : okI tos id off ttl proto src dst o
  · have h1' := h1
    unfold okI at h1'
    rw [if_pos h1, if_pos h1, wr64 (a := 20 + (o.length : Int)) (by omega), wr64 (a := 20 + (o.length : Int) + (p.length : Int)) (by omega), wr64 (a := off + (p.length : Int)) (by omega)]
    by_cases h2 : 20 + (o.length : Int) + (p.length : Int) > 65535
    · simp [h2, spec_EncodeIP.j0]
    · by_cases h3 : off + (p.length : Int) > 65535
      · simp [h2, h3, spec_EncodeIP.j0]
      · have hl := ihead_len tos id df mf off ttl proto src dst o p
        simp only [h2, h3, if_false, decide_false, spec_EncodeIP.j0, Bool.false_eq_true, if_true]
        rw [shead_f tos id df mf ttl proto src dst (by omega) (by omega) hb hp (by omega)]
        simp only [Option.bind_some]
        rw [join_f (by rw [iout_len]; omega) (by omega) (by rw [iout_len]; omega) (by omega)]
        rfl
  · rw [if_neg h1, if_neg h1]
    rfl

/-! ### ipcode -/
theorem icodeIP_f (tos id : Int) (df mf : Bool) (off ttl proto src dst : Int) {o p : List Int} (ho : o.length ≤ 1048576) (hp : p.length ≤ 1048576) : impl_codeIP.f tos id df mf off ttl proto src dst o p = some (icode tos id off ttl proto src dst o p) := by
  unfold impl_codeIP.f icode
  rw [okI_impl]
  simp only [Option.bind_some, decide_eq_true_eq]
  by_cases h1 : okI tos id off ttl proto src dst o
  · have h1' := h1
    unfold okI at h1'
    rw [if_pos h1, if_pos h1, wr64 (a := 20 + (o.length : Int)) (by omega), wr64 (a := 20 + (o.length : Int) + (p.length : Int)) (by omega), wr64 (a := off + (p.length : Int)) (by omega)]
    split
    · rfl
    · split <;> rfl
  · rw [if_neg h1, if_neg h1]

/-! ### ipimpl -/
theorem or_i64 (a b : Nat) (ha : a < 2 ^ 63) (hb : b < 2 ^ 63) : Go.bits .or .i64 (a : Int) (b : Int) = ((a ||| b : Nat) : Int) := (bits_nat .i64 63 (by decide) wraps_i64 a b ha hb).2
theorem or_low (n b a : Nat) (hn : n ≤ 20) (hb : b < 2 ^ 20) (ha : a < 2 ^ n) : Go.bits .or .i64 (a : Int) ((2 ^ n * b : Nat) : Int) = (a : Int) + ((2 ^ n * b : Nat) : Int) := by
  have h1 : 2 ^ n ≤ 2 ^ 20 := Nat.pow_le_pow_right (by decide) hn
  have h2 : 2 ^ n * b ≤ 2 ^ 20 * 2 ^ 20 := Nat.mul_le_mul h1 (by omega)
  rw [or_i64 _ _ (by omega) (by omega), Nat.or_comm, ← Nat.two_pow_add_eq_or_of_lt ha]
  omega

/-! ### iphead -/
theorem ihj1_f (tos id : Int) (df mf : Bool) (off ttl proto src dst : Int) {o p : List Int} (ho : o.length ≤ 40) (hb : Bs o) {k : Nat} (hk : 200 ≤ k) (tos' id' : Int) (df' mf' : Bool) (off' : Int) : impl_headIP.j1 (k + 1) ([(64 + (20 + (o.length : Int)) / 4) % 256, tos % 256] ++ be 2 (20 + (o.length : Int) + (p.length : Int)) ++ be 2 id) (flg df mf off) tos' id' df' mf' off' ttl proto src dst o p = some (iout (ihead tos id df mf off ttl proto src dst o p)) := by
  have hl := ihead_len tos id df mf off ttl proto src dst o p
  rw [impl_headIP.j1]
  rw [show impl_put.f k ([(64 + (20 + (o.length : Int)) / 4) % 256, tos % 256] ++ be 2 (20 + (o.length : Int) + (p.length : Int)) ++ be 2 id) 2 (flg df mf off) = some _ from iput_f (n := 2) (by omega) (by simp [be_len]) (by omega)]
  simp only [Option.bind_some]
  rw [if_pos (by simp [be_len])]
  rw [show ∀ l, impl_put.f k l 4 src = impl_put.f k l ((4 : Nat) : Int) src from fun _ => rfl, iput_f (n := 4) (by omega) (by simp [be_len]) (by omega)]
  simp only [Option.bind_some]
  rw [show ∀ l, impl_put.f k l 4 dst = impl_put.f k l ((4 : Nat) : Int) dst from fun _ => rfl, iput_f (n := 4) (by omega) (by simp [be_len]) (by omega)]
  simp only [Option.bind_some]
  rw [if_pos (by simp [be_len]; omega)]
  rw [show [(64 + (20 + (o.length : Int)) / 4) % 256, tos % 256] ++ be 2 (20 + (o.length : Int) + (p.length : Int)) ++ be 2 id ++ be 2 (flg df mf off) ++ [ttl % 256, proto % 256, 0, 0] ++ be 4 src ++ be 4 dst ++ o = ihead tos id df mf off ttl proto src dst o p from rfl, icheck_f (ihead_bytes _ _ _ _ _ _ _ _ _ _ hb) (by omega) (by omega)]
  simp only [Option.bind_some]
  rw [if_pos (by omega), if_pos (by omega)]
  rfl
theorem ihead_f (tos id : Int) (df mf : Bool) {off : Int} (ttl proto src dst : Int) {o p : List Int} (hoff : 0 ≤ off ∧ off ≤ 65528) (ho : o.length ≤ 40) (hb : Bs o) (hp : p.length ≤ 1048576) {k : Nat} (hk : 200 ≤ k) : impl_headIP.f (k + 1 + 1) tos id df mf off ttl proto src dst o p = some (iout (ihead tos id df mf off ttl proto src dst o p)) := by
  unfold impl_headIP.f
  rw [wr64 (a := 20 + (o.length : Int)) (by omega), wr64 (a := 20 + (o.length : Int) + (p.length : Int)) (by omega), td_pos (a := 20 + (o.length : Int)) 4 (by omega), wr64 (a := (20 + (o.length : Int)) / 4) (by omega), wr64 (a := 64 + (20 + (o.length : Int)) / 4) (by omega), td_pos _ hoff.1, wr64 (a := off / 8) (by omega)]
  rw [show ∀ l v, impl_put.f (k + 1 + 1) l 2 v = impl_put.f (k + 1 + 1) l ((2 : Nat) : Int) v from fun _ _ => rfl, iput_f (n := 2) (by omega) (by simp) (by omega)]
  simp only [Option.bind_some]
  rw [show ∀ l v, impl_put.f (k + 1 + 1) l 2 v = impl_put.f (k + 1 + 1) l ((2 : Nat) : Int) v from fun _ _ => rfl, iput_f (n := 2) (by omega) (by simp [be_len]) (by omega)]
  simp only [Option.bind_some]
  obtain ⟨y, hy⟩ : ∃ y : Nat, off / 8 = (y : Int) := ⟨(off / 8).toNat, by omega⟩
  have hy2 : y < 8192 := by omega
  have hA : Go.bits .or .i64 (off / 8) 16384 = 16384 + off / 8 := by rw [hy]; have := or_low 13 2 y (by decide) (by decide) (by omega); simp only [Nat.reducePow, Nat.reduceMul] at this; rw [show (16384 : Int) = ((16384 : Nat) : Int) from rfl, this]; omega
  have hB : Go.bits .or .i64 (off / 8) 8192 = 8192 + off / 8 := by rw [hy]; have := or_low 13 1 y (by decide) (by decide) (by omega); simp only [Nat.reducePow, Nat.reduceMul] at this; rw [show (8192 : Int) = ((8192 : Nat) : Int) from rfl, this]; omega
  have hC : Go.bits .or .i64 (16384 + off / 8) 8192 = 16384 + 8192 + off / 8 := by
    rw [← hA, hy]
    rw [show (16384 : Int) = ((16384 : Nat) : Int) from rfl, show (8192 : Int) = ((8192 : Nat) : Int) from rfl, or_i64 _ _ (by omega) (by decide), or_i64 _ _ (Nat.or_lt_two_pow (by omega) (by decide)) (by decide), Nat.or_assoc, show (16384 ||| 8192 : Nat) = 2 ^ 13 * 3 from by decide, Nat.or_comm, ← Nat.two_pow_add_eq_or_of_lt (by omega)]
    omega
  have go : ∀ q, q = flg df mf off → impl_headIP.j1 (k + 1) ([(64 + (20 + (o.length : Int)) / 4) % 256, tos % 256] ++ be 2 (20 + (o.length : Int) + (p.length : Int)) ++ be 2 id) q tos id df mf off ttl proto src dst o p = some (iout (ihead tos id df mf off ttl proto src dst o p)) := by
    intro q hq
    rw [hq]
    exact ihj1_f tos id df mf off ttl proto src dst ho hb hk _ _ _ _ _
  cases df <;> cases mf <;> simp only [if_true, if_false, Bool.false_eq_true, impl_headIP.j0] <;> refine go _ ?_ <;> simp only [flg, if_true, if_false, Bool.false_eq_true, hA, hB, hC] <;> omega

/-! ### ipall -/
theorem iip_f (tos id : Int) (df mf : Bool) (off ttl proto src dst : Int) {o p : List Int} (hb : Bs o) (ho : o.length ≤ 1048576) (hp : p.length ≤ 1048576) {k : Nat} (hk : p.length + 300 ≤ k) : impl_EncodeIP.f k tos id df mf off ttl proto src dst o p = some (iall tos id df mf off ttl proto src dst o p) := by
  obtain ⟨k, rfl⟩ : ∃ m, k = m + 1 + 1 := ⟨k - 2, by omega⟩
  unfold impl_EncodeIP.f iall
  rw [icodeIP_f _ _ _ _ _ _ _ _ _ ho hp]
  simp only [Option.bind_some]
  by_cases h : icode tos id off ttl proto src dst o p = 0
  · obtain ⟨h1, h2, h3⟩ := icode_zero h
    unfold okI at h1
    rw [if_pos h, if_pos h, ihead_f tos id df mf ttl proto src dst (by omega) (by omega) hb hp (by omega)]
    simp only [Option.bind_some]
    rw [if_pos (by rw [iout_len, ihead_len]; omega)]
  · rw [if_neg h, if_neg h]

/-! ### maycomplain -/
theorem mc_same (tos id : Int) (df mf : Bool) (off ttl proto src dst : Int) {o p : List Int} (hb : Bs o) (ho : o.length ≤ 1048576) (hp : p.length ≤ 1048576) : ∃ r, ∀ k, p.length + 301 ≤ k → spec_MayComplain.f k tos id df mf off ttl proto src dst o p = some r ∧ impl_MayComplain.f tos id df mf off ttl proto src dst o p = some r := by
  have tail : ∀ k, spec_MayComplain.j0 (k + 1) true tos id df mf off ttl proto src dst o p = some false := fun k => by rw [spec_MayComplain.j0]; rfl
  have main : ∀ b : Bool, ∃ r, ∀ k, p.length + 301 ≤ k → spec_MayComplain.j0 k b tos id df mf off ttl proto src dst o p = some r ∧ (if b = true then some false else (if proto = 1 then (if (p.length : Int) > 0 then (if 0 < (p.length : Int) then (if (rd p 0) = 8 then (some true) else (some ((rd p 0) == 0))) else (none)) else (some false)) else (some true))) = some r := by
    intro b
    cases b with
    | true => exact ⟨false, fun k hk => by obtain ⟨k, rfl⟩ : ∃ m, k = m + 1 := ⟨k - 1, by omega⟩; exact ⟨tail k, rfl⟩⟩
    | false =>
      have : ∃ r, (if proto = 1 then (if (p.length : Int) > 0 then (if 0 < (p.length : Int) then (if (rd p 0) = 8 then (some true) else (some ((rd p 0) == 0))) else (none)) else (some false)) else (some true)) = some r := by
        by_cases h1 : proto = 1
        · by_cases h2 : (p.length : Int) > 0
          · by_cases h3 : rd p 0 = 8
            · exact ⟨_, by rw [if_pos h1, if_pos h2, if_pos h2, if_pos h3]⟩
            · exact ⟨_, by rw [if_pos h1, if_pos h2, if_pos h2, if_neg h3]⟩
          · exact ⟨_, by rw [if_pos h1, if_neg h2]⟩
        · exact ⟨_, by rw [if_neg h1]⟩
      obtain ⟨r, hr⟩ := this
      refine ⟨r, fun k hk => ?_⟩
      obtain ⟨k, rfl⟩ : ∃ m, k = m + 1 := ⟨k - 1, by omega⟩
      exact ⟨by rw [spec_MayComplain.j0]; exact hr, hr⟩
  have hs : ∀ k, p.length + 301 ≤ k → spec_EncodeIP.f k tos id df mf off ttl proto src dst o p = some (iall tos id df mf off ttl proto src dst o p) := fun k hk => sip_f tos id df mf off ttl proto src dst hb ho hp (by omega)
  have h2 : (iall tos id df mf off ttl proto src dst o p).2 = icode tos id off ttl proto src dst o p := by
    unfold iall
    split
    · rename_i h; exact h.symm
    · rfl
  have start : ∀ k, p.length + 301 ≤ k → spec_MayComplain.f k tos id df mf off ttl proto src dst o p = (if icode tos id off ttl proto src dst o p = 0 then (if off = 0 then ((impl_AddrKind.f src).bind fun t198 => (if t198 = 6 then ((impl_AddrKind.f dst).bind fun t199 => (spec_MayComplain.j0 k (t199 != 6) tos id df mf off ttl proto src dst o p)) else (spec_MayComplain.j0 k true tos id df mf off ttl proto src dst o p))) else (spec_MayComplain.j0 k true tos id df mf off ttl proto src dst o p)) else (spec_MayComplain.j0 k true tos id df mf off ttl proto src dst o p)) := by
    intro k hk
    unfold spec_MayComplain.f
    rw [hs k hk, kind_eq, kind_eq]
    simp only [Option.bind_some]
    rw [h2]
  obtain ⟨q1, hq1⟩ := kind_some src
  obtain ⟨q2, hq2⟩ := kind_some dst
  have no : ∀ k, p.length + 301 ≤ k → spec_MayComplain.j0 k true tos id df mf off ttl proto src dst o p = some false := by
    intro k hk
    obtain ⟨k, rfl⟩ : ∃ m, k = m + 1 := ⟨k - 1, by omega⟩
    exact tail k
  have hi : impl_MayComplain.f tos id df mf off ttl proto src dst o p = (if icode tos id off ttl proto src dst o p = 0 then (if off = 0 then (if q1 = 6 then (if (q2 != 6) = true then some false else (if proto = 1 then (if (p.length : Int) > 0 then (if 0 < (p.length : Int) then (if (rd p 0) = 8 then (some true) else (some ((rd p 0) == 0))) else (none)) else (some false)) else (some true))) else some false) else some false) else some false) := by
    unfold impl_MayComplain.f
    rw [icodeIP_f _ _ _ _ _ _ _ _ _ ho hp, hq1, hq2]
    simp only [Option.bind_some, bne_iff_ne, ne_eq, ite_not]
  rw [hi]
  by_cases c1 : icode tos id off ttl proto src dst o p = 0
  · by_cases c2 : off = 0
    · by_cases c3 : q1 = 6
      · obtain ⟨r, hr⟩ := main (q2 != 6)
        refine ⟨r, fun k hk => ?_⟩
        rw [start k hk, hq1, hq2]
        simp only [Option.bind_some]
        rw [if_pos c1, if_pos c2, if_pos c3, if_pos c1, if_pos c2, if_pos c3]
        exact hr k hk
      · refine ⟨false, fun k hk => ?_⟩
        rw [start k hk, hq1]
        simp only [Option.bind_some]
        rw [if_pos c1, if_pos c2, if_neg c3, if_pos c1, if_pos c2, if_neg c3]
        exact ⟨no k hk, rfl⟩
    · refine ⟨false, fun k hk => ?_⟩
      rw [start k hk]
      rw [if_pos c1, if_neg c2, if_pos c1, if_neg c2]
      exact ⟨no k hk, rfl⟩
  · refine ⟨false, fun k hk => ?_⟩
    rw [start k hk]
    rw [if_neg c1, if_neg c1]
    exact ⟨no k hk, rfl⟩

/-! ### dz -/
abbrev DR := Int × Int × Bool × Bool × Int × Int × Int × Int × Int × List Int × List Int × Int
def dz (c : Int) : DR := (0, 0, false, false, 0, 0, 0, 0, 0, [], [], c)

/-! ### patch -/
theorem fold_mod {x : Int} (h : 0 ≤ x) : fold x % 65535 = x % 65535 := by
  unfold fold
  split <;> omega
def wt (b : Bool) (i : Nat) : Int := if (i % 2 == 0) = b then 256 else 1
theorem wt_succ (b : Bool) (i : Nat) : wt b (i + 1) = wt (!b) i := by
  unfold wt
  have h : ((i + 1) % 2 == 0) = !(i % 2 == 0) := by
    rcases Nat.mod_two_eq_zero_or_one i with h | h
    · rw [show (i + 1) % 2 = 1 from by omega, h]; rfl
    · rw [show (i + 1) % 2 = 0 from by omega, h]; rfl
  rw [h]
  cases b <;> cases (i % 2 == 0) <;> rfl
theorem wsp_set (l : List Int) : ∀ (b : Bool) (i : Nat) (x : Int) (h : i < l.length), wsp b (l.set i x) = wsp b l + (x - l[i]) * wt b i := by
  induction l with
  | nil => intro b i x h; simp at h
  | cons a r ih =>
    intro b i x h
    cases i with
    | zero => cases b <;> (simp only [List.set_cons_zero, wsp, wt, List.getElem_cons_zero]; simp; omega)
    | succ i =>
      have h2 : i < r.length := by simpa using h
      have e := ih (!b) i x h2
      rw [wt_succ, List.set_cons_succ]
      cases b <;> (simp only [wsp, List.getElem_cons_succ]; simp only [Bool.not_true, Bool.not_false] at e ⊢; omega)
theorem wsp_app (l m : List Int) : ∀ b : Bool, wsp b (l ++ m) = wsp b l + wsp (if l.length % 2 = 0 then b else !b) m := by
  induction l with
  | nil => intro b; simp [wsp]
  | cons a r ih =>
    intro b
    have e := ih (!b)
    have h : (if (a :: r).length % 2 = 0 then b else !b) = (if r.length % 2 = 0 then !b else !!b) := by
      simp only [List.length_cons]
      rcases Nat.mod_two_eq_zero_or_one r.length with h | h
      · rw [if_neg (by omega), if_pos h]
      · rw [if_pos (by omega), if_neg (by omega), Bool.not_not]
    rw [h, List.cons_append]
    cases b <;> (simp only [wsp]; simp only [Bool.not_true, Bool.not_false] at e ⊢; omega)

/-! ### drawbase -/
theorem u64_nn (y : Int) : 0 ≤ IntKind.u64.wrap y := by simp [IntKind.wrap, IntKind.bits, IntKind.signed]; omega
theorem u64_id {y : Int} (h : 0 ≤ y ∧ y ≤ 9223372036854775807) : IntKind.u64.wrap y = y := by simp [IntKind.wrap, IntKind.bits, IntKind.signed]; omega
theorem xor_nn (a b : Int) : 0 ≤ Go.bits .xor .u64 a b := by
  show 0 ≤ IntKind.u64.wrap _
  exact u64_nn _
theorem mod_in {x n : Int} (hx : 0 ≤ x) (hn : 0 < n) (h2 : n ≤ 4611686018427387904) : 0 ≤ wrap64 (Int.tmod x n) ∧ wrap64 (Int.tmod x n) < n := by
  have e : Int.tmod x n = x % n := tm_pos n hx
  have h0 := Int.emod_nonneg x (show n ≠ 0 by omega)
  have h1 := Int.emod_lt_of_pos x hn
  rw [e, wr64 (by omega)]
  exact ⟨h0, h1⟩

/-! ### l01draw2 -/
theorem l01b_l (l : List Int) (hn : l.length ≤ 2097152) (m : List Int) (p : Int) (d : Nat) : ∀ (k i : Nat) (st : Int), i + d = l.length → d < k → ∃ st', spec_l01Begin.l0 k l (i : Int) m p st = some (p, st') := by
  induction d with
  | zero =>
    intro k i st hi hk
    obtain ⟨k, rfl⟩ : ∃ m, k = m + 1 := ⟨k - 1, by omega⟩
    simp only [spec_l01Begin.l0]
    rw [if_neg (by omega)]
    exact ⟨st, rfl⟩
  | succ d ih =>
    intro k i st hi hk
    obtain ⟨k, rfl⟩ : ∃ m, k = m + 1 := ⟨k - 1, by omega⟩
    simp only [spec_l01Begin.l0]
    rw [if_pos (by omega), if_pos (by omega), wr_succ (n := l.length) (by omega) (by omega)]
    exact ih k (i + 1) _ (by omega) (by omega)
theorem l01b_f {l : List Int} (hn : l.length ≤ 2097152) {k : Nat} (hk : l.length < k) : ∃ st, spec_l01Begin.f k l = some (0, st) := by
  unfold spec_l01Begin.f
  exact l01b_l l hn l 0 l.length k 0 _ (by omega) hk
theorem l01n_f {l : List Int} (hl : l.length ≤ 2097152) {p : Int} (st : Int) {n : Int} (hp : 0 ≤ p) (hn : 0 < n) (h2 : n ≤ 4611686018427387904) : ∃ r p' st', spec_l01Next.f l p st n = some (r, p', st') ∧ 0 ≤ r ∧ r < n ∧ 0 ≤ p' := by
  unfold spec_l01Next.f
  rw [if_neg (show ¬ n ≤ 0 by omega), u64_id (y := n) (by omega)]
  by_cases h : p < (l.length : Int)
  · rw [if_pos h, if_pos hp, if_neg (show ¬ n = 0 by omega)]
    have := mod_in (xor_nn (IntKind.u64.wrap (IntKind.u64.wrap (st * 6364136223846793005) + 1442695040888963407) / 8589934592) (IntKind.u64.wrap (rd l p))) hn h2
    exact ⟨_, _, _, rfl, this.1, this.2, by rw [wr64 (by omega)]; omega⟩
  · rw [if_neg h, if_neg (show ¬ n = 0 by omega)]
    have hq : 0 ≤ IntKind.u64.wrap (IntKind.u64.wrap (st * 6364136223846793005) + 1442695040888963407) / 8589934592 := by
      have := u64_nn (IntKind.u64.wrap (st * 6364136223846793005) + 1442695040888963407)
      omega
    have := mod_in hq hn h2
    exact ⟨_, _, _, rfl, this.1, this.2, hp⟩

/-! ### the law -/
theorem sum_in {g : List Int} (hg : Bs g) {i : Nat} (hi : i + 1 < g.length) (hev : i % 2 = 0) (h0 : g[i] = 0) (h1 : g[i + 1] = 0) (hpos : 0 < wsp true g) : csum ((g.set i (csum g / 256 % 256)).set (i + 1) (csum g % 256)) = 0 := by
  have hcb := csum_le hg
  have hc : csum g = 65535 - fold (wsp true g) := rfl
  generalize csum g = c at hc hcb ⊢
  have w0 : wt true i = 256 := by unfold wt; rw [hev]; rfl
  have w1 : wt true (i + 1) = 1 := by unfold wt; rw [show (i + 1) % 2 = 1 from by omega]; rfl
  have e1 : wsp true ((g.set i (c / 256 % 256)).set (i + 1) (c % 256)) = wsp true g + c := by
    rw [wsp_set _ _ (i + 1) _ (by simpa using hi), wsp_set _ _ i _ (by omega), w0, w1, List.getElem_set_ne (by omega), h0, h1]
    omega
  unfold csum
  rw [e1]
  generalize wsp true g = W at *
  have m := fold_mod (x := W) (by omega)
  have m2 := fold_mod (x := W + c) (by omega)
  have b2 := fold_le (W + c) (by omega)
  have n2 : fold (W + c) ≠ 0 := by unfold fold; rw [if_neg (by omega)]; omega
  omega
theorem wsp_pos {a : Int} {r : List Int} (ha : 1 ≤ a) (hr : Bs r) : 0 < wsp true (a :: r) := by
  have := (wsp_bd r false hr).1
  simp only [wsp]
  omega
theorem numa2 (a b : Int) : numa 0 [a, b] = a * 256 + b := by simp [numa]
theorem numa4 (a b c d : Int) : numa 0 [a, b, c, d] = ((a * 256 + b) * 256 + c) * 256 + d := by simp [numa]
theorem and15 {x : Int} (h : 0 ≤ x ∧ x ≤ 255) : Go.bits .and .u8 x 15 = x % 16 := by
  have key : ∀ n : Fin 256, Go.bits .and .u8 (n.val : Int) 15 = (n.val : Int) % 16 := by decide +kernel
  have e := key ⟨x.toNat, by omega⟩
  simp only [Int.toNat_of_nonneg h.1] at e
  exact e
theorem rd_bs {l : List Int} (h : Bs l) (i : Int) : 0 ≤ rd l i ∧ rd l i ≤ 255 := by
  unfold rd
  rw [List.getD_eq_getElem?_getD]
  rcases hq : l[i.toNat]? with _ | x
  · simp
  · exact h x (List.mem_of_getElem? hq)
theorem mid_len (l : List Int) (i j : Nat) : ((l.take i).drop j).length ≤ i - j := by rw [List.length_drop, List.length_take]; omega
theorem Bs.mid {l : List Int} (h : Bs l) (i j : Nat) : Bs ((l.take i).drop j) := (h.take i).drop j
theorem icut {l : List Int} (hb : Bs l) (i j : Nat) {k : Nat} (h : j - i ≤ 6) (hk : 10 ≤ k) : impl_get.f k ((l.take j).drop i) = some (numa 0 ((l.take j).drop i)) := iget_f (hb.mid j i) (by have := mid_len l j i; omega) (by have := mid_len l j i; omega)
/-! ### heads -/
theorem ihead_as (tos id : Int) (df mf : Bool) (off ttl proto src dst : Int) (o p : List Int) : ihead tos id df mf off ttl proto src dst o p = (64 + (20 + (o.length : Int)) / 4) % 256 :: tos % 256 :: (20 + (o.length : Int) + (p.length : Int)) / 256 % 256 :: (20 + (o.length : Int) + (p.length : Int)) % 256 :: id / 256 % 256 :: id % 256 :: flg df mf off / 256 % 256 :: flg df mf off % 256 :: ttl % 256 :: proto % 256 :: 0 :: 0 :: src / 16777216 % 256 :: src / 65536 % 256 :: src / 256 % 256 :: src % 256 :: dst / 16777216 % 256 :: dst / 65536 % 256 :: dst / 256 % 256 :: dst % 256 :: o := by
  simp [ihead, be]
theorem iout_as (tos id : Int) (df mf : Bool) (off ttl proto src dst : Int) (o p : List Int) : ∃ c1 c2, iout (ihead tos id df mf off ttl proto src dst o p) = (64 + (20 + (o.length : Int)) / 4) % 256 :: tos % 256 :: (20 + (o.length : Int) + (p.length : Int)) / 256 % 256 :: (20 + (o.length : Int) + (p.length : Int)) % 256 :: id / 256 % 256 :: id % 256 :: flg df mf off / 256 % 256 :: flg df mf off % 256 :: ttl % 256 :: proto % 256 :: c1 :: c2 :: src / 16777216 % 256 :: src / 65536 % 256 :: src / 256 % 256 :: src % 256 :: dst / 16777216 % 256 :: dst / 65536 % 256 :: dst / 256 % 256 :: dst % 256 :: o := by
  refine ⟨csum (ihead tos id df mf off ttl proto src dst o p) / 256 % 256, csum (ihead tos id df mf off ttl proto src dst o p) % 256, ?_⟩
  unfold iout
  generalize csum (ihead tos id df mf off ttl proto src dst o p) = s
  rw [ihead_as]
  rfl
theorem iout_bytes {h : List Int} (hb : Bs h) : Bs (iout h) := by
  intro x hx
  unfold iout at hx
  rcases List.mem_or_eq_of_mem_set hx with hx | rfl
  · rcases List.mem_or_eq_of_mem_set hx with hx | rfl
    · exact hb x hx
    · omega
  · omega
theorem iout_sum (tos id : Int) (df mf : Bool) (off ttl proto src dst : Int) {o p : List Int} (ho : Bs o) (hl : o.length ≤ 40) : csum (iout (ihead tos id df mf off ttl proto src dst o p)) = 0 := by
  have hb := ihead_bytes tos id df mf off ttl proto src dst p ho
  have hn := ihead_len tos id df mf off ttl proto src dst o p
  refine sum_in hb (i := 10) (by omega) (by decide) ?_ ?_ ?_
  · simp only [ihead_as]; rfl
  · simp only [ihead_as]; rfl
  · rw [ihead_as] at hb ⊢
    exact wsp_pos (by omega) hb.tail
/-! ### the reading of a packet -/
theorem dec_f {frm src : Int} {Q : List Int} (hQ : Bs Q) (hn : Q.length ≤ 60000) (hf : 0 ≤ frm ∧ frm ≤ 4294967295) (hs : 0 ≤ src ∧ src ≤ 4294967295) {k : Nat} (hk : Q.length + 200 ≤ k) : impl_DecodeIP.f k (iout (ihead 0 0 false false 0 64 1 frm src [] Q) ++ Q) = some (0, 0, false, false, 0, 64, 1, frm, src, [], Q, 0) := by
  have hS := iout_sum 0 0 false false 0 64 1 frm src (o := []) (p := Q) (by intro x hx; cases hx) (by decide)
  have hB : Bs (iout (ihead 0 0 false false 0 64 1 frm src [] Q) ++ Q) := (iout_bytes (ihead_bytes _ _ _ _ _ _ _ _ _ _ (by intro x hx; cases hx))).append hQ
  have hl : (iout (ihead 0 0 false false 0 64 1 frm src [] Q) ++ Q).length = 20 + Q.length := by rw [List.length_append, iout_len, ihead_len]; rfl
  have hT : (iout (ihead 0 0 false false 0 64 1 frm src [] Q) ++ Q).take 20 = iout (ihead 0 0 false false 0 64 1 frm src [] Q) := List.take_left' (by rw [iout_len, ihead_len]; rfl)
  have hD : (iout (ihead 0 0 false false 0 64 1 frm src [] Q) ++ Q).drop 20 = Q := List.drop_left' (by rw [iout_len, ihead_len]; rfl)
  obtain ⟨c1, c2, e⟩ := iout_as 0 0 false false 0 64 1 frm src [] Q
  have e' : iout (ihead 0 0 false false 0 64 1 frm src [] Q) ++ Q = 69 :: 0 :: (20 + (Q.length : Int)) / 256 % 256 :: (20 + (Q.length : Int)) % 256 :: 0 :: 0 :: 0 :: 0 :: 64 :: 1 :: c1 :: c2 :: frm / 16777216 % 256 :: frm / 65536 % 256 :: frm / 256 % 256 :: frm % 256 :: src / 16777216 % 256 :: src / 65536 % 256 :: src / 256 % 256 :: src % 256 :: Q := by
    rw [e]
    simp [flg]
  rw [← hT] at hS
  generalize iout (ihead 0 0 false false 0 64 1 frm src [] Q) ++ Q = B at *
  obtain ⟨k, rfl⟩ : ∃ m, k = m + 1 + 1 := ⟨k - 2, by omega⟩
  have r0 : rd B 0 = 69 := by rw [e']; rfl
  have r1 : rd B 1 = 0 := by rw [e']; rfl
  have r8 : rd B 8 = 64 := by rw [e']; rfl
  have r9 : rd B 9 = 1 := by rw [e']; rfl
  have n2 : numa 0 ((B.take 4).drop 2) = 20 + (Q.length : Int) := by
    rw [e']
    show numa 0 [_, _] = _
    rw [numa2]; omega
  have n4 : numa 0 ((B.take 6).drop 4) = 0 := by rw [e']; rfl
  have n6 : numa 0 ((B.take 8).drop 6) = 0 := by rw [e']; rfl
  have n12 : numa 0 ((B.take 16).drop 12) = frm := by
    rw [e']
    show numa 0 [_, _, _, _] = _
    rw [numa4]; omega
  have n16 : numa 0 ((B.take 20).drop 16) = src := by
    rw [e']
    show numa 0 [_, _, _, _] = _
    rw [numa4]; omega
  have w20 : wrap64 (wrap64 (Go.bits .and .u8 69 15) * 4) = 20 := by decide +kernel
  unfold impl_DecodeIP.f
  rw [if_neg (by omega), if_pos (by omega), r0, if_pos (by decide), w20, if_neg (by decide), impl_DecodeIP.j0, decide_eq_false (by omega), if_neg (by decide), if_pos (by decide), if_pos (by omega), show (20 : Int).toNat = 20 from rfl, icheck_f (hB.take 20) (by rw [List.length_take]; omega) (by rw [List.length_take]; omega), Option.bind_some, if_pos hS, if_pos (by decide), if_pos (by omega), icut hB 2 4 (by decide) (by omega), Option.bind_some, n2, if_neg (by omega), impl_DecodeIP.j1, decide_eq_false (by omega), if_neg (by decide), if_pos (by decide), if_pos (by omega), icut hB 6 8 (by decide) (by omega), Option.bind_some, if_pos (by omega), if_pos (by decide), if_pos (by omega), icut hB 4 6 (by decide) (by omega), Option.bind_some, if_pos (by omega), if_pos (by omega), if_pos (by decide), if_pos (by omega), icut hB 12 16 (by decide) (by omega), Option.bind_some, if_pos (by decide), if_pos (by omega), icut hB 16 20 (by decide) (by omega), Option.bind_some, if_pos (by decide), if_pos (by omega), show (20 : Int).toNat = 20 from rfl]
  rw [dup_f (by rw [List.length_drop, List.length_take]; omega), Option.bind_some, if_pos (by decide), if_pos (by omega), if_pos (by omega), show (20 + (Q.length : Int)).toNat = B.length by omega, List.take_length, hD, dup_f (by omega), Option.bind_some, n6, n4, n12, n16, r1, r8, r9]
  have z1 : Go.bits .and .i64 0 8191 = 0 := by decide +kernel
  have z2 : Go.bits .and .i64 (0 / 16384) 1 = 0 := by decide +kernel
  have z3 : Go.bits .and .i64 (0 / 8192) 1 = 0 := by decide +kernel
  have z4 : (B.take 20).drop 20 = [] := by rw [List.drop_eq_nil_of_le]; rw [List.length_take]; omega
  rw [if_neg (by decide), z1, z2, z3, z4, wr64 (a := 0 * 8) (by decide), wr64 (a := 0 * 8 + (Q.length : Int)) (by omega), if_neg (by omega), wr64 (a := 0) (by decide), wr64 (a := 64) (by decide), wr64 (a := 1) (by decide)]
  rfl
/-! ### messages -/
def mb (a b c : Int) (l : List Int) : List Int := [a % 256, b % 256, 0, 0] ++ be 4 c ++ l
theorem mb_len (a b c : Int) (l : List Int) : (mb a b c l).length = 8 + l.length := by
  simp [mb, be_len]
  omega
theorem mb_bytes (a b c : Int) {l : List Int} (h : Bs l) : Bs (mb a b c l) := by
  unfold mb
  refine Bs.append (Bs.append ?_ (be_bytes _ _)) h
  intro x hx
  simp only [List.mem_cons, List.not_mem_nil, or_false] at hx
  rcases hx with rfl | rfl | rfl | rfl <;> omega
def mo (g : List Int) : List Int := (g.set (2 : Int).toNat ((csum g / 256) % 256)).set (3 : Int).toNat (csum g % 256)
theorem mo_len (g : List Int) : (mo g).length = g.length := by simp [mo]
theorem mo_bytes {g : List Int} (hb : Bs g) : Bs (mo g) := by
  intro x hx
  unfold mo at hx
  rcases List.mem_or_eq_of_mem_set hx with hx | rfl
  · rcases List.mem_or_eq_of_mem_set hx with hx | rfl
    · exact hb x hx
    · omega
  · omega
theorem tail_m (g : List Int) (c : Int) (h : 4 ≤ g.length) : (if 2 < (g.length : Int) then (if 3 < (g.length : Int) then (some (((g.set (2 : Int).toNat ((c / 256) % 256)).set (3 : Int).toNat ((c) % 256)), (0 : Int))) else (none)) else (none)) = some ((g.set (2 : Int).toNat ((c / 256) % 256)).set (3 : Int).toNat (c % 256), (0 : Int)) := by
  rw [if_pos (show (2 : Int) < (g.length : Int) by omega), if_pos (show (3 : Int) < (g.length : Int) by omega)]
theorem icmp_f {a b c : Int} (ha : 0 ≤ a ∧ a ≤ 255) (hb2 : 0 ≤ b ∧ b ≤ 255) (hc : 0 ≤ c ∧ c ≤ 4294967295) {l : List Int} (hb : Bs l) (hl : l.length ≤ 60000) {k : Nat} (hk : l.length + 101 ≤ k) : spec_EncodeIcmp.f k a b c l = some (mo (mb a b c l), 0) ∧ impl_EncodeIcmp.f k a b c l = some (mo (mb a b c l), 0) := by
  obtain ⟨k, rfl⟩ : ∃ m, k = m + 1 := ⟨k - 1, by omega⟩
  have hm := mb_len a b c l
  have hmb := mb_bytes a b c hb
  unfold spec_EncodeIcmp.f impl_EncodeIcmp.f
  simp only [in_f, Option.bind_some, decide_eq_true_eq]
  rw [if_pos ha, if_neg (show ¬ a < 0 by omega), if_neg (show ¬ a > 255 by omega), if_pos hb2, if_neg (show ¬ b < 0 by omega), if_neg (show ¬ b > 255 by omega), if_neg (show ¬ c < 0 by omega), decide_eq_true hc, decide_eq_false (show ¬ c > 4294967295 by omega)]
  constructor
  · rw [spec_EncodeIcmp.j0, if_neg (by simp), if_neg (by omega)]
    rw [show spec_l03Put.f k c 4 = some (be 4 c) from sput_f (n := 4) (by omega) (by omega), Option.bind_some]
    rw [join_f (by simp) (by simp [be_len]) (by simp <;> omega) (by simp [be_len] <;> omega), Option.bind_some]
    rw [join_f (by simp [be_len]) (by omega) (by simp [be_len] <;> omega) (by omega), Option.bind_some]
    rw [show [a % 256, b % 256, 0, 0] ++ be 4 c ++ l = mb a b c l from rfl]
    unfold mo
    generalize mb a b c l = g at hm hmb ⊢
    rw [scheck_f hmb (by omega) (by omega), Option.bind_some]
    exact tail_m g _ (by omega)
  · rw [impl_EncodeIcmp.j0, if_neg (by simp), if_neg (by omega)]
    rw [show impl_put.f k [a % 256, b % 256, 0, 0] 4 c = some ([a % 256, b % 256, 0, 0] ++ be 4 c) from iput_f (n := 4) (by omega) (by simp) (by omega), Option.bind_some]
    rw [if_pos (by simp [be_len]; omega), Option.bind_some]
    rw [show [a % 256, b % 256, 0, 0] ++ be 4 c ++ l = mb a b c l from rfl]
    unfold mo
    generalize mb a b c l = g at hm hmb ⊢
    rw [icheck_f hmb (by omega) (by omega), Option.bind_some]
    exact tail_m g _ (by omega)
theorem mb_as (a b c : Int) (l : List Int) : mb a b c l = a % 256 :: b % 256 :: 0 :: 0 :: c / 16777216 % 256 :: c / 65536 % 256 :: c / 256 % 256 :: c % 256 :: l := by
  simp [mb, be]
theorem mo_as (a b c : Int) (l : List Int) : ∃ c1 c2, mo (mb a b c l) = a % 256 :: b % 256 :: c1 :: c2 :: c / 16777216 % 256 :: c / 65536 % 256 :: c / 256 % 256 :: c % 256 :: l := by
  refine ⟨csum (mb a b c l) / 256 % 256, csum (mb a b c l) % 256, ?_⟩
  unfold mo
  generalize csum (mb a b c l) = s
  rw [mb_as]
  rfl
theorem mo_sum {a : Int} (ha : 1 ≤ a ∧ a ≤ 255) (b c : Int) {l : List Int} (hl : Bs l) : csum (mo (mb a b c l)) = 0 := by
  have hb := mb_bytes a b c hl
  have hn := mb_len a b c l
  refine sum_in hb (i := 2) (by omega) (by decide) ?_ ?_ ?_
  · simp only [mb_as]; rfl
  · simp only [mb_as]; rfl
  · rw [mb_as] at hb ⊢
    exact wsp_pos (by omega) hb.tail
theorem dicmp_f {a b c : Int} (ha : 1 ≤ a ∧ a ≤ 255) (hb2 : 0 ≤ b ∧ b ≤ 255) (hc : 0 ≤ c ∧ c ≤ 4294967295) {l : List Int} (hl : Bs l) (hn : l.length ≤ 60000) {k : Nat} (hk : l.length + 100 ≤ k) : impl_DecodeIcmp.f k (mo (mb a b c l)) = some (a, b, c, l, 0) := by
  have hS := mo_sum ha b c hl
  have hB := mo_bytes (mb_bytes a b c hl)
  have hlen : (mo (mb a b c l)).length = 8 + l.length := by rw [mo_len, mb_len]
  obtain ⟨c1, c2, e⟩ := mo_as a b c l
  generalize mo (mb a b c l) = B at *
  have r0 : rd B 0 = a := by
    rw [e]; show a % 256 = a; omega
  have r1 : rd B 1 = b := by
    rw [e]; show b % 256 = b; omega
  have n4 : numa 0 ((B.take 8).drop 4) = c := by
    rw [e]
    show numa 0 [_, _, _, _] = _
    rw [numa4]; omega
  have hd : B.drop 8 = l := by rw [e]; rfl
  unfold impl_DecodeIcmp.f
  rw [if_neg (by omega), if_neg (by omega), icheck_f hB (by omega) (by omega), Option.bind_some, if_pos hS, if_pos (by omega), if_pos (by omega), if_pos (by decide), if_pos (by omega), icut hB 4 8 (by decide) (by omega), Option.bind_some, hd, dup_f (by omega), Option.bind_some, r0, r1, n4, wr64 (a := a) (by omega), wr64 (a := b) (by omega)]
/-! ### complaints -/
theorem mc_code {tos id : Int} {df mf : Bool} {off ttl proto src dst : Int} {o p : List Int} (ho : o.length ≤ 1048576) (hp : p.length ≤ 1048576) (h : impl_MayComplain.f tos id df mf off ttl proto src dst o p = some true) : icode tos id off ttl proto src dst o p = 0 := by
  unfold impl_MayComplain.f at h
  rw [icodeIP_f _ _ _ _ _ _ _ _ _ ho hp, Option.bind_some] at h
  by_cases c : icode tos id off ttl proto src dst o p = 0
  · exact c
  · rw [if_neg c] at h
    cases h
/-- What stands in a complaint of a packet. -/
def cbody (tos id : Int) (df mf : Bool) (off ttl proto src dst : Int) (o p : List Int) : List Int := iout (ihead tos id df mf off ttl proto src dst o p) ++ p.take 8
theorem cbody_len (tos id : Int) (df mf : Bool) (off ttl proto src dst : Int) (o p : List Int) : (cbody tos id df mf off ttl proto src dst o p).length ≤ 28 + o.length := by
  simp only [cbody, List.length_append, iout_len, ihead_len, List.length_take]
  omega
theorem cbody_bytes (tos id : Int) (df mf : Bool) (off ttl proto src dst : Int) {o p : List Int} (ho : Bs o) (hp : Bs p) : Bs (cbody tos id df mf off ttl proto src dst o p) :=
  (iout_bytes (ihead_bytes _ _ _ _ _ _ _ _ _ _ ho)).append (hp.take 8)
def cfull (src from_ kind code rest : Int) (b : List Int) : DR := (0, 0, false, false, 0, 64, 1, from_, src, [], mo (mb kind code rest b), 0)
theorem scj_f {tos id : Int} {df mf : Bool} {off ttl proto src dst : Int} {o p : List Int} (ho : Bs o) (hp : Bs p) (hpl : p.length ≤ 1048576) (hc : icode tos id off ttl proto src dst o p = 0) (a1 : Int) {a2 a3 a4 : Int} (g2 : 0 ≤ a2 ∧ a2 ≤ 255) (g3 : 0 ≤ a3 ∧ a3 ≤ 255) (g4 : 0 ≤ a4 ∧ a4 ≤ 4294967295) {k : Nat} (hk : p.length + 400 ≤ k) : spec_Complain.j0 (k + 1) a1 a2 a3 a4 false tos id df mf off ttl proto src dst o p = some (cfull src a1 a2 a3 a4 (cbody tos id df mf off ttl proto src dst o p)) := by
  obtain ⟨h1, h2, h3⟩ := icode_zero hc
  unfold okI at h1
  have hl := ihead_len tos id df mf off ttl proto src dst o p
  have hbb := cbody_bytes tos id df mf off ttl proto src dst ho hp
  have hbl := cbody_len tos id df mf off ttl proto src dst o p
  have ei : iall tos id df mf off ttl proto src dst o p = (iout (ihead tos id df mf off ttl proto src dst o p) ++ p, 0) := by unfold iall; rw [if_pos hc]
  rw [spec_Complain.j0, if_neg (by simp), sip_f tos id df mf off ttl proto src dst ho (by omega) hpl (by omega), ei, Option.bind_some]
  have hlen : (iout (ihead tos id df mf off ttl proto src dst o p) ++ p).length = 20 + o.length + p.length := by rw [List.length_append, iout_len, hl]
  have ecut : (iout (ihead tos id df mf off ttl proto src dst o p) ++ p).take (28 + o.length) = cbody tos id df mf off ttl proto src dst o p := by
    rw [List.take_append, List.take_of_length_le (by rw [iout_len, hl]; omega), iout_len, hl, show 28 + o.length - (20 + o.length) = 8 by omega]
    rfl
  generalize hX : iout (ihead tos id df mf off ttl proto src dst o p) ++ p = X at hlen ecut
  dsimp only
  rw [wr64 (a := 28 + (o.length : Int)) (by omega), hlen]
  by_cases c : 28 + (o.length : Int) > ((20 + o.length + p.length : Nat) : Int)
  · rw [if_pos c, if_pos (by omega), if_pos (by omega), Int.toNat_natCast, show X.take (20 + o.length + p.length) = cbody tos id df mf off ttl proto src dst o p from by rw [← ecut, List.take_of_length_le (by omega), List.take_of_length_le (by omega)]]
    rw [(icmp_f g2 g3 g4 hbb (by omega) (by omega)).1]
    rfl
  · rw [if_neg c, if_pos (by omega), if_pos (by omega), show (28 + (o.length : Int)).toNat = 28 + o.length by omega, ecut]
    rw [(icmp_f g2 g3 g4 hbb (by omega) (by omega)).1]
    rfl
theorem icj_f {tos id : Int} {df mf : Bool} {off ttl proto src dst : Int} {o p : List Int} (ho : Bs o) (hp : Bs p) (hpl : p.length ≤ 1048576) (hc : icode tos id off ttl proto src dst o p = 0) (a1 : Int) {a2 a3 a4 : Int} (g2 : 0 ≤ a2 ∧ a2 ≤ 255) (g3 : 0 ≤ a3 ∧ a3 ≤ 255) (g4 : 0 ≤ a4 ∧ a4 ≤ 4294967295) {k : Nat} (hk : p.length + 400 ≤ k) : impl_Complain.j0 (k + 1) a1 a2 a3 a4 false tos id df mf off ttl proto src dst o p = some (cfull src a1 a2 a3 a4 (cbody tos id df mf off ttl proto src dst o p)) := by
  obtain ⟨h1, h2, h3⟩ := icode_zero hc
  unfold okI at h1
  have hl := ihead_len tos id df mf off ttl proto src dst o p
  have hbb := cbody_bytes tos id df mf off ttl proto src dst ho hp
  have hbl := cbody_len tos id df mf off ttl proto src dst o p
  have hH : impl_headIP.f k tos id df mf off ttl proto src dst o p = some (iout (ihead tos id df mf off ttl proto src dst o p)) := by
    obtain ⟨j, rfl⟩ : ∃ m, k = m + 1 + 1 := ⟨k - 2, by omega⟩
    exact ihead_f tos id df mf ttl proto src dst (by omega) (by omega) ho hpl (by omega)
  have hmn : mn 8 (p.length : Int) = ((min 8 p.length : Nat) : Int) := by unfold mn; omega
  have ht : p.take (min 8 p.length) = p.take 8 := by
    by_cases c : p.length ≤ 8
    · rw [List.take_of_length_le (by omega), List.take_of_length_le c]
    · rw [show min 8 p.length = 8 by omega]
  rw [impl_Complain.j0, if_neg (by simp), hH]
  simp only [Option.bind_some]
  rw [hmn, if_pos (by omega), if_pos (by omega), Int.toNat_natCast, ht, if_pos (by rw [iout_len, hl, List.length_take]; omega)]
  rw [show iout (ihead tos id df mf off ttl proto src dst o p) ++ p.take 8 = cbody tos id df mf off ttl proto src dst o p from rfl, (icmp_f g2 g3 g4 hbb (by omega) (by omega)).2]
  rfl
theorem bad_c (tos id : Int) (df mf : Bool) (off ttl proto src dst : Int) (o p : List Int) (a1 a2 a3 a4 : Int) (k : Nat) : spec_Complain.j0 (k + 1) a1 a2 a3 a4 true tos id df mf off ttl proto src dst o p = some (dz 1) ∧ impl_Complain.j0 (k + 1) a1 a2 a3 a4 true tos id df mf off ttl proto src dst o p = some (dz 1) := ⟨by rw [spec_Complain.j0]; rfl, by rw [impl_Complain.j0]; rfl⟩
theorem comp_same (tos id : Int) (df mf : Bool) (off ttl proto src dst : Int) {o p : List Int} (ho : Bs o) (hp : Bs p) (hol : o.length ≤ 1048576) (hpl : p.length ≤ 1048576) (a1 a2 a3 a4 : Int) {r : Bool} (hr : ∀ k, p.length + 301 ≤ k → spec_MayComplain.f k tos id df mf off ttl proto src dst o p = some r ∧ impl_MayComplain.f tos id df mf off ttl proto src dst o p = some r) :
    ((r = true ∧ (0 ≤ a1 ∧ a1 ≤ 4294967295) ∧ (a2 = 3 ∨ a2 = 11) ∧ (0 ≤ a3 ∧ a3 ≤ 255) ∧ (0 ≤ a4 ∧ a4 ≤ 4294967295)) ∧ ∀ k, p.length + 500 ≤ k → spec_Complain.f k tos id df mf off ttl proto src dst o p a1 a2 a3 a4 = some (cfull src a1 a2 a3 a4 (cbody tos id df mf off ttl proto src dst o p)) ∧ impl_Complain.f k tos id df mf off ttl proto src dst o p a1 a2 a3 a4 = some (cfull src a1 a2 a3 a4 (cbody tos id df mf off ttl proto src dst o p))) ∨
    (∀ k, p.length + 500 ≤ k → spec_Complain.f k tos id df mf off ttl proto src dst o p a1 a2 a3 a4 = some (dz 1) ∧ impl_Complain.f k tos id df mf off ttl proto src dst o p a1 a2 a3 a4 = some (dz 1)) := by
  by_cases hg : r = true ∧ (0 ≤ a1 ∧ a1 ≤ 4294967295) ∧ (a2 = 3 ∨ a2 = 11) ∧ (0 ≤ a3 ∧ a3 ≤ 255) ∧ (0 ≤ a4 ∧ a4 ≤ 4294967295)
  · refine .inl ⟨hg, fun k hk => ?_⟩
    obtain ⟨rfl, g1, g2, g3, g4⟩ := hg
    have hc := mc_code hol hpl (hr (p.length + 301) (by omega)).2
    obtain ⟨k, rfl⟩ : ∃ m, k = m + 1 := ⟨k - 1, by omega⟩
    have s := scj_f (df := df) (mf := mf) ho hp hpl hc a1 (a2 := a2) (by omega) g3 g4 (k := k) (by omega)
    have i := icj_f (df := df) (mf := mf) ho hp hpl hc a1 (a2 := a2) (by omega) g3 g4 (k := k) (by omega)
    unfold spec_Complain.f impl_Complain.f
    rw [(hr (k + 1) (by omega)).1, (hr (k + 1) (by omega)).2]
    simp only [Option.bind_some, if_true, in_f, addrOK_f, isAddr_f, g1, g3, g4, and_self, decide_true, Bool.not_true]
    rw [if_neg (show ¬ a3 < 0 by omega), if_neg (show ¬ a3 > 255 by omega), if_neg (show ¬ a4 < 0 by omega), decide_eq_false (show ¬ a4 > 4294967295 by omega)]
    refine ⟨?_, ?_⟩
    · by_cases e : a2 = 3
      · rw [if_pos e]; exact s
      · rw [if_neg e, if_pos (by omega)]; exact s
    · by_cases e : a2 = 3
      · rw [if_pos e]; exact i
      · rw [if_neg e, if_pos (by omega)]; exact i
  · refine .inr fun k hk => ?_
    obtain ⟨k, rfl⟩ : ∃ m, k = m + 1 := ⟨k - 1, by omega⟩
    obtain ⟨b1, b2⟩ := bad_c tos id df mf off ttl proto src dst o p a1 a2 a3 a4 k
    unfold spec_Complain.f impl_Complain.f
    rw [(hr (k + 1) (by omega)).1, (hr (k + 1) (by omega)).2]
    simp only [Option.bind_some, in_f, addrOK_f, isAddr_f, decide_eq_true_eq]
    by_cases c0 : r = true
    · rw [if_pos c0, if_pos c0]
      by_cases c1 : 0 ≤ a1 ∧ a1 ≤ 4294967295
      · rw [if_pos c1, if_pos c1]
        by_cases c3 : 0 ≤ a3 ∧ a3 ≤ 255
        · rw [if_pos c3, if_neg (show ¬ a3 < 0 by omega), if_neg (show ¬ a3 > 255 by omega)]
          by_cases c4 : 0 ≤ a4 ∧ a4 ≤ 4294967295
          · have c2 : ¬ (a2 = 3 ∨ a2 = 11) := fun h => hg ⟨c0, c1, h, c3, c4⟩
            rw [if_neg (show ¬ a2 = 3 by omega), if_neg (show ¬ a2 = 11 by omega), if_neg (show ¬ a2 = 3 by omega), if_neg (show ¬ a2 = 11 by omega)]
            exact ⟨b1, b2⟩
          · rw [decide_eq_false c4]
            refine ⟨?_, ?_⟩
            · simp only [Bool.not_false, ite_self]; exact b1
            · by_cases e : a4 < 0
              · simp only [e, if_true, ite_self]; exact b2
              · rw [if_neg e, decide_eq_true (show a4 > 4294967295 by omega)]
                simp only [ite_self]; exact b2
        · rw [if_neg c3]
          refine ⟨?_, ?_⟩
          · simp only [ite_self]; exact b1
          · by_cases e : a3 < 0
            · simp only [e, if_true, ite_self]; exact b2
            · rw [if_neg e, if_pos (show a3 > 255 by omega)]
              simp only [ite_self]; exact b2
      · rw [if_neg c1, if_neg c1]
        exact ⟨b1, b2⟩
    · rw [if_neg c0, if_neg c0]
      exact ⟨b1, b2⟩
/-- nobody may complain about a complaint -/
theorem mc_not {frm src : Int} {kind what rest : Int} {b : List Int} (hk : kind = 3 ∨ kind = 11) (hn : b.length ≤ 60000) (hf : 0 ≤ frm ∧ frm ≤ 4294967295) (hs : 0 ≤ src ∧ src ≤ 4294967295) : impl_MayComplain.f 0 0 false false 0 64 1 frm src [] (mo (mb kind what rest b)) = some false := by
  obtain ⟨c1, c2, e⟩ := mo_as kind what rest b
  have hlen : (mo (mb kind what rest b)).length = 8 + b.length := by rw [mo_len, mb_len]
  have r0 : rd (mo (mb kind what rest b)) 0 = kind := by rw [e]; show kind % 256 = kind; omega
  obtain ⟨a, ha⟩ := kind_some frm
  obtain ⟨a', ha'⟩ := kind_some src
  unfold impl_MayComplain.f
  rw [icodeIP_f _ _ _ _ _ _ _ _ _ (by simp) (by omega), Option.bind_some]
  split
  · rw [if_pos rfl, ha, Option.bind_some]
    split
    · rw [ha', Option.bind_some]
      split
      · rw [if_pos rfl, if_pos (by omega), if_pos (by omega), r0, if_neg (by omega)]
        congr 1
        rw [beq_eq_false_iff_ne]
        omega
      · rfl
    · rfl
  · rfl
theorem own_code {frm src : Int} {Q : List Int} (hn : Q.length ≤ 60000) (hf : 0 ≤ frm ∧ frm ≤ 4294967295) (hs : 0 ≤ src ∧ src ≤ 4294967295) : icode 0 0 0 64 1 frm src [] Q = 0 := by
  unfold icode
  rw [if_pos (show okI 0 0 0 64 1 frm src [] from ⟨by decide, by decide, by decide, by decide, by decide, by decide, hf, hs, by decide, by decide⟩), if_neg (by simp; omega), if_neg (by omega)]
/-! ### the quote -/
theorem four_of {p : List Int} (h : 4 ≤ p.length) : ∃ a b c d u, p = a :: b :: c :: d :: u := by
  match p, h with
  | a :: b :: c :: d :: u, _ => exact ⟨a, b, c, d, u, rfl⟩
theorem quote_f {tos id : Int} {df mf : Bool} {off ttl proto src dst : Int} {o p : List Int} (ho : Bs o) (hp : Bs p) (hc : okI tos id off ttl proto src dst o) {k : Nat} (hk : 400 ≤ k) :
    (p.length < 8 → impl_ReadQuote.f k (cbody tos id df mf off ttl proto src dst o p) = some (0, 0, 0, 0, 0, 0, 0, 2)) ∧
    (8 ≤ p.length → ∃ z, impl_ReadQuote.f k (cbody tos id df mf off ttl proto src dst o p) = some (proto, src, dst, id, rd p 0 * 256 + rd p 1, rd p 2 * 256 + rd p 3, z, 0)) := by
  obtain ⟨_, _, hpr, hid, _, _, hsr, hds, hol, ho4⟩ := hc
  have hS := iout_sum tos id df mf off ttl proto src dst (o := o) (p := p) ho (by omega)
  have hB := cbody_bytes tos id df mf off ttl proto src dst (p := p) ho hp
  have hil : (iout (ihead tos id df mf off ttl proto src dst o p)).length = 20 + o.length := by rw [iout_len, ihead_len]
  have hl : (cbody tos id df mf off ttl proto src dst o p).length = 20 + o.length + min 8 p.length := by unfold cbody; rw [List.length_append, hil, List.length_take]
  have hT : (cbody tos id df mf off ttl proto src dst o p).take (20 + o.length) = iout (ihead tos id df mf off ttl proto src dst o p) := List.take_left' hil
  have hD : (cbody tos id df mf off ttl proto src dst o p).drop (20 + o.length) = p.take 8 := List.drop_left' hil
  obtain ⟨c1, c2, e⟩ := iout_as tos id df mf off ttl proto src dst o p
  have e' : cbody tos id df mf off ttl proto src dst o p = (64 + (20 + (o.length : Int)) / 4) % 256 :: tos % 256 :: (20 + (o.length : Int) + (p.length : Int)) / 256 % 256 :: (20 + (o.length : Int) + (p.length : Int)) % 256 :: id / 256 % 256 :: id % 256 :: flg df mf off / 256 % 256 :: flg df mf off % 256 :: ttl % 256 :: proto % 256 :: c1 :: c2 :: src / 16777216 % 256 :: src / 65536 % 256 :: src / 256 % 256 :: src % 256 :: dst / 16777216 % 256 :: dst / 65536 % 256 :: dst / 256 % 256 :: dst % 256 :: (o ++ p.take 8) := by
    unfold cbody
    rw [e]
    rfl
  rw [← hT] at hS
  generalize cbody tos id df mf off ttl proto src dst o p = B at *
  obtain ⟨k, rfl⟩ : ∃ m, k = m + 1 := ⟨k - 1, by omega⟩
  have r0 : rd B 0 = 64 + (20 + (o.length : Int)) / 4 := by
    rw [e']; show (64 + (20 + (o.length : Int)) / 4) % 256 = _; omega
  have r9 : rd B 9 = proto := by rw [e']; show proto % 256 = proto; omega
  have n4 : numa 0 ((B.take 6).drop 4) = id := by
    rw [e']
    show numa 0 [_, _] = _
    rw [numa2]; omega
  have n12 : numa 0 ((B.take 16).drop 12) = src := by
    rw [e']
    show numa 0 [_, _, _, _] = _
    rw [numa4]; omega
  have n16 : numa 0 ((B.take 20).drop 16) = dst := by
    rw [e']
    show numa 0 [_, _, _, _] = _
    rw [numa4]; omega
  have hn : wrap64 (wrap64 (Go.bits .and .u8 (64 + (20 + (o.length : Int)) / 4) 15) * 4) = ((20 + o.length : Nat) : Int) := by
    rw [and15 (by omega), wr64 (a := (64 + (20 + (o.length : Int)) / 4) % 16) (by omega), wr64 (by omega)]
    omega
  have base : impl_ReadQuote.f (k + 1) B = (if ((p.take 8).length : Int) < 8 then (some (0, 0, 0, 0, 0, 0, 0, 2)) else (impl_get.f k ((p.take 8).take 2)).bind fun a => (impl_get.f k (((p.take 8).take 4).drop 2)).bind fun b => (impl_get.f k (((p.take 8).take 8).drop 4)).bind fun c => some (proto, src, dst, id, a, b, c, 0)) := by
    unfold impl_ReadQuote.f
    rw [if_neg (by omega), if_pos (by omega), r0, if_pos (by omega), hn, if_neg (by omega), decide_eq_false (by omega), impl_ReadQuote.j0, if_neg (by decide), if_pos (by omega), if_pos (by omega), Int.toNat_natCast, icheck_f (hB.take _) (by rw [List.length_take]; omega) (by rw [List.length_take]; omega), Option.bind_some, if_pos hS, hD]
    by_cases h8 : ((p.take 8).length : Int) < 8
    · rw [if_pos h8, if_pos h8]
    · rw [if_neg h8, if_neg h8]
      rw [List.length_take] at h8
      rw [if_pos (by omega), if_pos (by decide), if_pos (by omega), icut hB 12 16 (by decide) (by omega), Option.bind_some, if_pos (by decide), if_pos (by omega), icut hB 16 20 (by decide) (by omega), Option.bind_some, if_pos (by decide), if_pos (by omega), icut hB 4 6 (by decide) (by omega), Option.bind_some, if_pos (by rw [List.length_take]; omega), n4, n12, n16, r9, wr64 (a := proto) (by omega)]
      congr 1
      funext a
      rw [if_pos (by decide), if_pos (by rw [List.length_take]; omega)]
      congr 1
      funext b
      rw [if_pos (by decide), if_pos (by rw [List.length_take]; omega)]
  refine ⟨fun h => ?_, fun h => ?_⟩
  · rw [base, if_pos (by rw [List.length_take]; omega)]
  · rw [base, if_neg (by rw [List.length_take]; omega)]
    obtain ⟨a0, a1, a2, a3, u, ep⟩ := four_of (show 4 ≤ p.length by omega)
    have hq : Bs (p.take 8) := hp.take 8
    have h2 : (p.take 8).take 2 = [a0, a1] := by rw [ep]; rfl
    have h4 : ((p.take 8).take 4).drop 2 = [a2, a3] := by rw [ep]; rfl
    have l8 := mid_len (p.take 8) 8 4
    rw [iget_f (hq.take 2) (by rw [h2]; simp) (by rw [h2]; show 2 < k; omega), Option.bind_some, iget_f (hq.mid 4 2) (by rw [h4]; simp) (by rw [h4]; show 2 < k; omega), Option.bind_some, iget_f (hq.mid 8 4) (by omega) (by omega), Option.bind_some, h2, h4, numa2, numa2]
    rw [show rd p 0 = a0 from by rw [ep]; rfl, show rd p 1 = a1 from by rw [ep]; rfl, show rd p 2 = a2 from by rw [ep]; rfl, show rd p 3 = a3 from by rw [ep]; rfl]
    exact ⟨_, rfl⟩
/-! ### the draws -/
theorem host_f {l : List Int} (hl : l.length ≤ 2097152) {p : Int} (st : Int) (hp : 0 ≤ p) : ∃ r p' st', spec_l02Host.f l p st = some (r, p', st') ∧ 0 ≤ p' := by
  unfold spec_l02Host.f
  obtain ⟨x, p1, s1, e, h0, h1, hp1⟩ := l01n_f hl st (n := 2) hp (by omega) (by omega)
  rw [e]
  simp only [Option.bind_some]
  obtain ⟨y, p2, s2, e, h2, h3, hp2⟩ := l01n_f hl s1 (n := 6) hp1 (by omega) (by omega)
  rw [e]
  exact ⟨_, _, _, rfl, hp2⟩
theorem bool_f {l : List Int} (hl : l.length ≤ 2097152) {p : Int} (st : Int) (hp : 0 ≤ p) : ∃ r p' st', spec_l01Bool.f l p st = some (r, p', st') ∧ 0 ≤ p' := by
  unfold spec_l01Bool.f
  obtain ⟨x, p1, s1, e, h0, h1, hp1⟩ := l01n_f hl st (n := 2) hp (by omega) (by omega)
  rw [e]
  exact ⟨_, _, _, rfl, hp1⟩
theorem wide_f {l : List Int} (hl : l.length ≤ 2097152) {p : Int} (st : Int) (hp : 0 ≤ p) : ∃ r p' st', spec_l02Wide.f l p st = some (r, p', st') ∧ 0 ≤ p' := by
  unfold spec_l02Wide.f
  obtain ⟨x, p1, s1, e, h0, h1, hp1⟩ := l01n_f hl st (n := 65536) hp (by omega) (by omega)
  rw [e]
  simp only [Option.bind_some]
  obtain ⟨y, p2, s2, e, h2, h3, hp2⟩ := l01n_f hl s1 (n := 65536) hp1 (by omega) (by omega)
  rw [e]
  exact ⟨_, _, _, rfl, hp2⟩
theorem daddr_f {l : List Int} (hl : l.length ≤ 2097152) {p : Int} (st : Int) (hp : 0 ≤ p) : ∃ r p' st', spec_l02Addr.f l p st = some (r, p', st') ∧ 0 ≤ p' := by
  unfold spec_l02Addr.f
  obtain ⟨x, p1, s1, e, h0, h1, hp1⟩ := l01n_f hl st (n := 8) hp (by omega) (by omega)
  rw [e]
  simp only [Option.bind_some]
  split
  · obtain ⟨r, p2, s2, e, hp2⟩ := wide_f hl s1 hp1
    rw [e]
    exact ⟨_, _, _, rfl, hp2⟩
  · split
    · obtain ⟨y, p2, s2, e, h2, h3, hp2⟩ := l01n_f hl s1 (n := 10) hp1 (by omega) (by omega)
      rw [e]
      simp only [Option.bind_some]
      rw [if_pos h2, if_pos (by simp; omega)]
      exact ⟨_, _, _, rfl, hp2⟩
    · obtain ⟨y, p2, s2, e, h2, h3, hp2⟩ := l01n_f hl s1 (n := 6) hp1 (by omega) (by omega)
      rw [e]
      exact ⟨_, _, _, rfl, hp2⟩
theorem bytes_l {l : List Int} (hl : l.length ≤ 2097152) (n : Int) (hn : 0 ≤ n ∧ n ≤ 1000) (d : Nat) : ∀ (k : Nat) (x : List Int) (i p st : Int), i + (d : Int) = n → 0 ≤ i → (x.length : Int) = i → Bs x → 0 ≤ p → d < k → ∃ b p' st', spec_l01Bytes.l0 k n x i l p st = some (b, p', st') ∧ (b.length : Int) = n ∧ Bs b ∧ 0 ≤ p' := by
  induction d with
  | zero =>
    intro k x i p st hi h0 hx hb hp hk
    obtain ⟨k, rfl⟩ : ∃ m, k = m + 1 := ⟨k - 1, by omega⟩
    rw [spec_l01Bytes.l0, if_neg (by omega)]
    exact ⟨_, _, _, rfl, by omega, hb, hp⟩
  | succ d ih =>
    intro k x i p st hi h0 hx hb hp hk
    obtain ⟨k, rfl⟩ : ∃ m, k = m + 1 := ⟨k - 1, by omega⟩
    obtain ⟨y, p1, s1, e, h1, h2, hp1⟩ := l01n_f hl st (n := 256) hp (by omega) (by omega)
    rw [spec_l01Bytes.l0, if_pos (by omega), e, Option.bind_some, if_pos (by omega), wr64 (a := i + 1) (by omega)]
    refine ih k _ (i + 1) p1 s1 (by omega) (by omega) (by simp; omega) (hb.append ?_) hp1 (by omega)
    intro z hz
    rw [List.mem_singleton.1 hz]
    omega
theorem bytes_f {l : List Int} (hl : l.length ≤ 2097152) {n : Int} (hn : 0 ≤ n ∧ n ≤ 1000) {p : Int} (st : Int) (hp : 0 ≤ p) {k : Nat} (hk : 1000 < k) : ∃ b p' st', spec_l01Bytes.f k l p st n = some (b, p', st') ∧ (b.length : Int) = n ∧ Bs b ∧ 0 ≤ p' := by
  unfold spec_l01Bytes.f
  exact bytes_l hl n hn n.toNat k [] 0 p st (by omega) (by omega) (by simp) (by intro x hx; cases hx) hp (by omega)
abbrev XP := Int × Int × Bool × Bool × Int × Int × Int × Int × Int × List Int × List Int × Int × Int
abbrev XD := Int × Int × Bool × Bool × Int × Int × Int × Int × Int × List Int × List Int
def GoodP (y : XP) : Prop := Bs y.2.2.2.2.2.2.2.2.2.1 ∧ y.2.2.2.2.2.2.2.2.2.1.length ≤ 60 ∧ Bs y.2.2.2.2.2.2.2.2.2.2.1 ∧ y.2.2.2.2.2.2.2.2.2.2.1.length ≤ 70000 ∧ 0 ≤ y.2.2.2.2.2.2.2.2.2.2.2.1
theorem pk1 {l : List Int} (hl : l.length ≤ 2097152) {x0 x1 : Int} {x2 x3 : Bool} {x4 x5 x6 x7 x8 : Int} {p : Int} (st : Int) (hp : 0 ≤ p) {ol dl : List Int} (ho : Bs ol) (hol : ol.length ≤ 60) (hd : Bs dl) (hdl : dl.length ≤ 70000) (k : Nat) : ∃ y, spec_l05Packet.j1 k x0 x1 x2 x3 x4 x5 x6 x7 x8 l p st ol dl = some y ∧ GoodP y := by
  unfold spec_l05Packet.j1
  obtain ⟨a, p1, s1, e, _, _, hp1⟩ := l01n_f hl st (n := 6) hp (by omega) (by omega)
  rw [e, Option.bind_some]
  split
  · obtain ⟨b, p2, s2, e, _, _, hp2⟩ := l01n_f hl s1 (n := 100) hp1 (by omega) (by omega)
    rw [e, Option.bind_some]
    exact ⟨_, rfl, ho, hol, hd, hdl, hp2⟩
  · exact ⟨_, rfl, ho, hol, hd, hdl, hp1⟩
theorem pk0 {l : List Int} (hl : l.length ≤ 2097152) {x0 x1 : Int} {x2 x3 : Bool} {x4 x5 x6 x7 x8 : Int} {p : Int} (st : Int) (hp : 0 ≤ p) {dl : List Int} (hd : Bs dl) (hdl : dl.length ≤ 70000) {k : Nat} (hk : 1000 < k) : ∃ y, spec_l05Packet.j0 k x0 x1 x2 x3 x4 x5 x6 x7 x8 l p st dl = some y ∧ GoodP y := by
  unfold spec_l05Packet.j0
  obtain ⟨a, p1, s1, e, _, _, hp1⟩ := l01n_f hl st (n := 6) hp (by omega) (by omega)
  rw [e, Option.bind_some]
  split
  · obtain ⟨b, p2, s2, e, h0, h1, hp2⟩ := l01n_f hl s1 (n := 11) hp1 (by omega) (by omega)
    rw [e, Option.bind_some]
    dsimp only
    rw [wr64 (a := 4 * b) (by omega)]
    obtain ⟨o, p3, s3, e, hlen, hB, hp3⟩ := bytes_f hl (n := 4 * b) (by omega) s2 hp2 hk
    rw [e, Option.bind_some]
    exact pk1 hl s3 hp3 hB (by show o.length ≤ 60; omega) hd hdl k
  · exact pk1 hl s1 hp1 (by intro x hx; cases hx) (by simp) hd hdl k
theorem pk_f {l : List Int} (hl : l.length ≤ 2097152) {p : Int} (st : Int) (hp : 0 ≤ p) {k : Nat} (hk : 1000 < k) : ∃ y, spec_l05Packet.f k l p st 20 = some y ∧ GoodP y := by
  unfold spec_l05Packet.f
  obtain ⟨n1, p1, s1, e, _, _, hp1⟩ := l01n_f hl st (n := 2) hp (by omega) (by omega)
  rw [e, Option.bind_some]
  obtain ⟨n2, p2, s2, e, _, _, hp2⟩ := l01n_f hl s1 (n := 256) hp1 (by omega) (by omega)
  rw [e, Option.bind_some]
  obtain ⟨n3, p3, s3, e, _, _, hp3⟩ := l01n_f hl s2 (n := 4) hp2 (by omega) (by omega)
  rw [e, Option.bind_some]
  obtain ⟨n4, p4, s4, e, _, _, hp4⟩ := l01n_f hl s3 (n := 4) hp3 (by omega) (by omega)
  rw [e, Option.bind_some]
  obtain ⟨n5, p5, s5, e, _, _, hp5⟩ := l01n_f hl s4 (n := 64) hp4 (by omega) (by omega)
  rw [e, Option.bind_some]
  obtain ⟨n6, p6, s6, e, a6, b6, hp6⟩ := l01n_f hl s5 (n := 4) hp5 (by omega) (by omega)
  rw [e, Option.bind_some]
  obtain ⟨n7, p7, s7, e, hp7⟩ := host_f hl s6 hp6
  rw [e, Option.bind_some]
  obtain ⟨n8, p8, s8, e, hp8⟩ := host_f hl s7 hp7
  rw [e, Option.bind_some]
  dsimp only
  rw [wr64 (a := 20 + 1) (by decide)]
  obtain ⟨n9, p9, s9, e, a9, b9, hp9⟩ := l01n_f hl s8 (n := 20 + 1) hp8 (by omega) (by omega)
  rw [e, Option.bind_some]
  obtain ⟨dl, p10, s10, e, hlen, hB, hp10⟩ := bytes_f hl (n := n9) (by omega) s9 hp9 hk
  rw [e, Option.bind_some]
  dsimp only
  rw [if_pos a6, if_pos b6]
  exact pk0 hl s10 hp10 hB (by omega) hk
theorem rep_bytes (n : Nat) : Bs (List.replicate n 0) := by
  intro z hz
  rw [List.eq_of_mem_replicate hz]
  omega
theorem one3 : Bs [1, 2, 3] := by
  intro x hx
  simp only [List.mem_cons, List.not_mem_nil, or_false] at hx
  rcases hx with rfl | rfl | rfl <;> omega
theorem bend_f {l : List Int} (hl : l.length ≤ 2097152) {x0 x1 : Int} {x2 x3 : Bool} {x4 x5 x6 x7 x8 : Int} {p : Int} (st : Int) (hp : 0 ≤ p) {ol dl : List Int} (ho : Bs ol) (hol : ol.length ≤ 60) (hd : Bs dl) (hdl : dl.length ≤ 70000) : ∃ y, spec_l05Bend.f l p st x0 x1 x2 x3 x4 x5 x6 x7 x8 ol dl = some y ∧ GoodP y := by
  unfold spec_l05Bend.f
  obtain ⟨a, p1, s1, e, _, _, hp1⟩ := l01n_f hl st (n := 40) hp (by omega) (by omega)
  rw [e, Option.bind_some]
  dsimp only
  by_cases c0 : a = 0
  · rw [if_pos c0]; exact ⟨_, rfl, ho, hol, hd, hdl, hp1⟩
  rw [if_neg c0]
  by_cases c1 : a = 1
  · rw [if_pos c1]; exact ⟨_, rfl, ho, hol, hd, hdl, hp1⟩
  rw [if_neg c1]
  by_cases c2 : a = 2
  · rw [if_pos c2]; exact ⟨_, rfl, ho, hol, hd, hdl, hp1⟩
  rw [if_neg c2]
  by_cases c3 : a = 3
  · rw [if_pos c3]; exact ⟨_, rfl, ho, hol, hd, hdl, hp1⟩
  rw [if_neg c3]
  by_cases c4 : a = 4
  · rw [if_pos c4]; exact ⟨_, rfl, one3, by simp, hd, hdl, hp1⟩
  rw [if_neg c4]
  by_cases c5 : a = 5
  · rw [if_pos c5]; exact ⟨_, rfl, ho, hol, hd, hdl, hp1⟩
  rw [if_neg c5]
  by_cases c6 : a = 6
  · rw [if_pos c6]; exact ⟨_, rfl, ho, hol, hd, hdl, hp1⟩
  rw [if_neg c6]
  by_cases c7 : a = 7
  · rw [if_pos c7]
    obtain ⟨b, p2, s2, e, h0, h1, hp2⟩ := l01n_f hl s1 (n := 2) hp1 (by omega) (by omega)
    rw [e, Option.bind_some]
    dsimp only
    rw [wr64 (a := 65515 - (ol.length : Int)) (by omega), wr64 (a := 65515 - (ol.length : Int) + b) (by omega), if_pos (by omega), if_pos (by omega)]
    exact ⟨_, rfl, ho, hol, rep_bytes _, by show (List.replicate _ _).length ≤ 70000; rw [List.length_replicate]; omega, hp2⟩
  rw [if_neg c7]
  by_cases c8 : a = 8
  · rw [if_pos c8]
    obtain ⟨b, p2, s2, e, h0, h1, hp2⟩ := l01n_f hl s1 (n := 2) hp1 (by omega) (by omega)
    rw [e, Option.bind_some]
    dsimp only
    rw [wr64 (a := 7 + b) (by omega), if_pos (by omega), if_pos (by omega)]
    exact ⟨_, rfl, ho, hol, rep_bytes _, by show (List.replicate _ _).length ≤ 70000; rw [List.length_replicate]; omega, hp2⟩
  rw [if_neg c8]
  by_cases c9 : a = 9
  · rw [if_pos c9]; exact ⟨_, rfl, rep_bytes _, by show (List.replicate _ _).length ≤ 60; rw [List.length_replicate]; decide, hd, hdl, hp1⟩
  rw [if_neg c9]
  exact ⟨_, rfl, ho, hol, hd, hdl, hp1⟩
def GoodD (y : XD) : Prop := Bs y.2.2.2.2.2.2.2.2.2.1 ∧ y.2.2.2.2.2.2.2.2.2.1.length ≤ 60 ∧ Bs y.2.2.2.2.2.2.2.2.2.2 ∧ y.2.2.2.2.2.2.2.2.2.2.length ≤ 70000
theorem may1 {l : List Int} (hl : l.length ≤ 2097152) {x0 x1 : Int} {x2 x3 : Bool} {x4 x5 x6 x7 x8 : Int} {p : Int} (st : Int) (hp : 0 ≤ p) {ol dl : List Int} (ho : Bs ol) (hol : ol.length ≤ 60) (hd : Bs dl) (hdl : dl.length ≤ 70000) : ∃ y, spec_DrawMayComplain.j1 x0 x1 x2 x3 x4 x5 x6 x7 x8 l p st ol dl = some y ∧ GoodD y := by
  unfold spec_DrawMayComplain.j1
  obtain ⟨a, p1, s1, e, _, _, hp1⟩ := l01n_f hl st (n := 8) hp (by omega) (by omega)
  rw [e, Option.bind_some]
  split
  · obtain ⟨b, p2, s2, e, hp2⟩ := daddr_f hl s1 hp1
    rw [e, Option.bind_some]
    exact ⟨_, rfl, ho, hol, hd, hdl⟩
  · split
    · obtain ⟨b, p2, s2, e, hp2⟩ := daddr_f hl s1 hp1
      rw [e, Option.bind_some]
      exact ⟨_, rfl, ho, hol, hd, hdl⟩
    · split
      · obtain ⟨y, e, h1, h2, h3, h4, _⟩ := bend_f hl (x0 := x0) (x1 := x1) (x2 := x2) (x3 := x3) (x4 := x4) (x5 := x5) (x6 := x6) (x7 := x7) (x8 := x8) s1 hp1 ho hol hd hdl
        rw [e, Option.bind_some]
        exact ⟨_, rfl, h1, h2, h3, h4⟩
      · exact ⟨_, rfl, ho, hol, hd, hdl⟩
theorem may0 {l : List Int} (hl : l.length ≤ 2097152) {b : Bool} {x0 x1 : Int} {x2 x3 : Bool} {x4 x5 x6 x7 x8 : Int} {p : Int} (st : Int) (hp : 0 ≤ p) {ol dl : List Int} (ho : Bs ol) (hol : ol.length ≤ 60) (hd : Bs dl) (hdl : dl.length ≤ 70000) (hb : b = true → 0 < (dl.length : Int)) : ∃ y, spec_DrawMayComplain.j0 b x0 x1 x2 x3 x4 x5 x6 x7 x8 l p st ol dl = some y ∧ GoodD y := by
  unfold spec_DrawMayComplain.j0
  cases b with
  | true =>
    rw [if_pos rfl]
    obtain ⟨a, p1, s1, e, h0, h1, hp1⟩ := l01n_f hl st (n := 4) hp (by omega) (by omega)
    rw [e, Option.bind_some]
    dsimp only
    rw [if_pos h0, if_pos h1, if_pos (hb rfl)]
    refine may1 hl s1 hp1 ho hol ?_ (by rw [List.length_set]; exact hdl)
    intro z hz
    rcases List.mem_or_eq_of_mem_set hz with hz | rfl
    · exact hd z hz
    · omega
  | false =>
    rw [if_neg (by decide)]
    exact may1 hl st hp ho hol hd hdl
theorem may_f {l : List Int} (hl : l.length ≤ 2097152) {k : Nat} (hk : l.length + 2000 ≤ k) : ∃ y, spec_DrawMayComplain.f k l = some y ∧ GoodD y := by
  unfold spec_DrawMayComplain.f
  obtain ⟨st, e⟩ := l01b_f hl (k := k) (by omega)
  rw [e, Option.bind_some]
  obtain ⟨⟨x0, x1, x2, x3, x4, x5, x6, x7, x8, ol, dl, p1, s1⟩, e, ho, hol, hd, hdl, hp1⟩ := pk_f hl st (p := 0) (by omega) (k := k) (by omega)
  rw [e, Option.bind_some]
  dsimp only at ho hol hd hdl hp1 ⊢
  split
  · split
    · obtain ⟨b, p2, s2, e, hp2⟩ := bool_f hl s1 hp1
      rw [e, Option.bind_some]
      exact may0 hl s2 hp2 ho hol hd hdl (fun _ => by assumption)
    · exact may0 hl s1 hp1 ho hol hd hdl (fun h => by cases h)
  · exact may0 hl s1 hp1 ho hol hd hdl (fun h => by cases h)
theorem sub_l (l : List Int) (hl : l.length ≤ 1048576) (d : Nat) : ∀ (k i : Nat) (x : List Int), i + d = l.length → x.length = i + 1 → d + 1048600 < k → ∃ sl p st, spec_l01Sub.l0 k l x (i : Int) = some (sl, p, st) ∧ sl.length = l.length + 1 ∧ 0 ≤ p := by
  induction d with
  | zero =>
    intro k i x hi hx hk
    obtain ⟨k, rfl⟩ : ∃ m, k = m + 1 := ⟨k - 1, by omega⟩
    rw [spec_l01Sub.l0, if_neg (by omega)]
    obtain ⟨st, e⟩ := l01b_f (l := x) (by omega) (k := k) (by omega)
    rw [e, Option.bind_some]
    exact ⟨_, _, _, rfl, by omega, Int.le_refl 0⟩
  | succ d ih =>
    intro k i x hi hx hk
    obtain ⟨k, rfl⟩ : ∃ m, k = m + 1 := ⟨k - 1, by omega⟩
    rw [spec_l01Sub.l0, if_pos (by omega), if_pos (by omega), if_pos (by omega), wr_succ (n := l.length) (by omega) (by omega)]
    exact ih k (i + 1) _ (by omega) (by simp; omega) (by omega)
theorem sub_f {l : List Int} (hl : l.length ≤ 1048576) {k : Nat} (hk : 2200000 ≤ k) : ∃ sl p st, spec_l01Sub.f k l 2 = some (sl, p, st) ∧ sl.length = l.length + 1 ∧ 0 ≤ p := by
  unfold spec_l01Sub.f
  exact sub_l l hl l.length k 0 [2] (by omega) (by simp) (by omega)
abbrev XC := Int × Int × Bool × Bool × Int × Int × Int × Int × Int × List Int × List Int × Int × Int × Int × Int
theorem drawc_f {l : List Int} (hl : l.length ≤ 1048576) {k : Nat} (hk : 2200000 ≤ k) : ∃ y : XC, spec_DrawComplain.f k l = some y ∧ Bs y.2.2.2.2.2.2.2.2.2.1 ∧ y.2.2.2.2.2.2.2.2.2.1.length ≤ 60 ∧ Bs y.2.2.2.2.2.2.2.2.2.2.1 ∧ y.2.2.2.2.2.2.2.2.2.2.1.length ≤ 70000 := by
  unfold spec_DrawComplain.f
  obtain ⟨sl, p0, t0, e, hsl, hp0⟩ := sub_f hl hk
  rw [e, Option.bind_some]
  obtain ⟨y, e, ho, hol, hd, hdl⟩ := may_f (l := l) (by omega) (k := k) (by omega)
  rw [e, Option.bind_some]
  have hs : sl.length ≤ 2097152 := by omega
  obtain ⟨m, p1, t1, e, h0, h1, hp1⟩ := l01n_f hs t0 (n := 5) hp0 (by omega) (by omega)
  rw [e, Option.bind_some]
  dsimp only
  rw [if_pos h0, if_pos h1]
  obtain ⟨d, p2, t2, e, hp2⟩ := host_f hs t1 hp1
  rw [e, Option.bind_some]
  obtain ⟨c, p3, t3, e, _, _, hp3⟩ := l01n_f hs t2 (n := 14) hp2 (by omega) (by omega)
  rw [e, Option.bind_some]
  obtain ⟨r, p4, t4, e, _, _, hp4⟩ := l01n_f hs t3 (n := 1500) hp3 (by omega) (by omega)
  rw [e, Option.bind_some]
  obtain ⟨z, p5, t5, e, _, _, hp5⟩ := l01n_f hs t4 (n := 16) hp4 (by omega) (by omega)
  rw [e, Option.bind_some]
  dsimp only
  split
  · exact ⟨_, rfl, ho, hol, hd, hdl⟩
  · split
    · exact ⟨_, rfl, ho, hol, hd, hdl⟩
    · split
      · exact ⟨_, rfl, ho, hol, hd, hdl⟩
      · exact ⟨_, rfl, ho, hol, hd, hdl⟩
/-! ### the law's end -/
theorem same_f (l : List Int) : laws_lwSame.f l l = some true := by
  unfold laws_lwSame.f
  rw [beq_self_eq_true]
theorem pkt_f (a b : Int) (c d : Bool) (e f g h i : Int) (l m : List Int) : laws_lwPacket.f a b c d e f g h i l m a b c d e f g h i l m = some true := by
  unfold laws_lwPacket.f
  simp [same_f]
theorem FnComplain : laws_FnComplain.Pure := by
  intro l hm _ hw
  by_cases hl : (l.length : Int) > 1048576
  · refine ⟨1, ?_⟩
    unfold laws_FnComplain.f
    rw [if_pos hl]
  · obtain ⟨k, hk⟩ : ∃ k, k = 3000000 := ⟨_, rfl⟩
    refine ⟨k + 1, ?_⟩
    have hl2 : l.length ≤ 1048576 := by omega
    unfold laws_FnComplain.f
    rw [if_neg hl]
    obtain ⟨⟨tos, id, df, mf, off, ttl, proto, src, dst, o, p, frm, kind, what, rest⟩, e, ho, hol, hp, hpl⟩ := drawc_f hl2 (k := k + 1) (by omega)
    rw [e, Option.bind_some]
    dsimp only at ho hol hp hpl ⊢
    obtain ⟨r, hr⟩ := mc_same tos id df mf off ttl proto src dst (p := p) ho (by omega) (by omega)
    have hmc := hr (k + 1) (by omega)
    rcases comp_same tos id df mf off ttl proto src dst ho hp (by omega) (by omega) frm kind what rest hr with ⟨⟨rfl, g1, g2, g3, g4⟩, hs⟩ | hs
    · have hc := mc_code (o := o) (p := p) (by omega) (by omega) hmc.2
      obtain ⟨h1, h2, h3⟩ := icode_zero hc
      have hsrc : 0 ≤ src ∧ src ≤ 4294967295 := h1.2.2.2.2.2.2.1
      have hcl := cbody_len tos id df mf off ttl proto src dst o p
      have hcb := cbody_bytes tos id df mf off ttl proto src dst ho hp
      have hql : (mo (mb kind what rest (cbody tos id df mf off ttl proto src dst o p))).length = 8 + (cbody tos id df mf off ttl proto src dst o p).length := by rw [mo_len, mb_len]
      rw [(hs (k + 1) (by omega)).1, Option.bind_some, hmc.2, Option.bind_some, hmc.1, Option.bind_some, if_neg (by decide), (hs (k + 1) (by omega)).2, Option.bind_some]
      unfold cfull
      dsimp only
      rw [if_pos rfl, if_pos rfl, iip_f 0 0 false false 0 64 1 frm src (by intro x hx; cases hx) (by simp) (by omega) (by omega), Option.bind_some]
      unfold iall
      rw [if_pos (own_code (by omega) g1 hsrc)]
      dsimp only
      rw [dec_f (mo_bytes (mb_bytes kind what rest hcb)) (by omega) g1 hsrc (by omega), Option.bind_some]
      dsimp only
      rw [dicmp_f (a := kind) (by omega) g3 g4 hcb (by omega) (by omega), Option.bind_some]
      dsimp only
      rw [if_pos rfl, if_pos rfl, if_pos rfl, pkt_f, Option.bind_some, if_pos rfl, if_pos rfl, if_pos rfl, if_pos rfl, if_pos rfl, if_pos rfl, mc_not g2 (by omega) g1 hsrc, Option.bind_some, laws_FnComplain.j0, if_neg (by decide)]
      obtain ⟨q1, q2⟩ := quote_f (df := df) (mf := mf) ho hp h1 (k := k) (by omega)
      by_cases h8 : p.length < 8
      · rw [q1 h8, Option.bind_some, if_pos (by omega)]
        rfl
      · obtain ⟨z, q⟩ := q2 (by omega)
        have b0 := rd_bs hp 0
        have b1 := rd_bs hp 1
        have b2 := rd_bs hp 2
        have b3 := rd_bs hp 3
        rw [q, Option.bind_some, if_neg (by omega)]
        dsimp only
        rw [if_pos rfl, if_pos rfl, if_pos rfl, if_pos rfl, if_pos rfl, if_pos (by omega), if_pos (by omega), wr64 (a := rd p 0) (by omega), wr64 (a := rd p 0 * 256) (by omega), wr64 (a := rd p 1) (by omega), wr64 (a := rd p 0 * 256 + rd p 1) (by omega), if_pos rfl, if_pos (by omega), if_pos (by omega), wr64 (a := rd p 2) (by omega), wr64 (a := rd p 2 * 256) (by omega), wr64 (a := rd p 3) (by omega), wr64 (a := rd p 2 * 256 + rd p 3) (by omega), beq_self_eq_true]
    · rw [(hs (k + 1) (by omega)).1, Option.bind_some, hmc.2, Option.bind_some, hmc.1, Option.bind_some, if_neg (by simp), (hs (k + 1) (by omega)).2, Option.bind_some]
      unfold dz
      dsimp only
      rw [if_pos rfl, if_neg (by decide)]

end Go.Proofs.Ytckhadlmhbhngaa.Pure
