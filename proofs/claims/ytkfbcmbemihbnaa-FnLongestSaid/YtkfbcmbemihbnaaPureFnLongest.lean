/- Of drawn routes the one that is found for a drawn address has it, is in the list and valid, and no other valid one in the list that has it has more bits, or as many and a lesser metric; none is found if none has it; and a route that lies behind with as many bits and no lesser metric changes nothing; without conditions. -/
import Derived.Test.YtkfbcmbemihbnaaPFnLongestx9
set_option linter.unusedVariables false
set_option linter.unusedSimpArgs false
namespace Go.Proofs.Ytkfbcmbemihbnaa.Pure
open Go.RowKit Go.Proofs.Ytkfbcmbemihbnaa.PFnLongest Go.Proofs.YtkfbcmbemihbnaaW.PrintWords Go.Proofs.YtkfbcmbemihbnaaW.PrintLast

/-! ### base -/
theorem wf64 {a : Int} (h : (Lit.int .i64 a).wf = true) : -9223372036854775808 ≤ a ∧ a ≤ 9223372036854775807 := by
  have h1 : IntKind.i64.min = -9223372036854775808 := by decide
  have h2 : IntKind.i64.max = 9223372036854775807 := by decide
  simp only [Lit.wf, Bool.and_eq_true, decide_eq_true_eq] at h
  omega
theorem tm_pos {a : Int} (n : Int) (h : 0 ≤ a) : Int.tmod a n = a % n := Int.tmod_eq_emod_of_nonneg h
theorem tm_neg {a : Int} (n : Int) (h : a ≤ 0) : Int.tmod a n = -((-a) % n) := by
  have := Int.neg_tmod (-a) n
  rw [Int.neg_neg] at this
  rw [this, Int.tmod_eq_emod_of_nonneg (by omega)]
theorem td_pos {a : Int} (n : Int) (h : 0 ≤ a) : Int.tdiv a n = a / n := Int.tdiv_eq_ediv_of_nonneg h
theorem wr64 {a : Int} (h : -9223372036854775808 ≤ a ∧ a ≤ 9223372036854775807) : wrap64 a = a := by
  unfold wrap64
  omega
theorem dec_eq {p : Prop} [Decidable p] {b : Bool} (h : b = true ↔ p) : some b = some (decide p) := by
  rw [Option.some.injEq, Bool.eq_iff_iff, decide_eq_true_eq]
  exact h
theorem ite_dec (p q : Prop) [Decidable p] [Decidable q] : (if p then some (decide q) else some false) = some (decide (p ∧ q)) := by
  by_cases h : p <;> simp [h]
theorem beq_dec (a b : Int) : (a == b) = decide (a = b) := by
  rw [Bool.eq_iff_iff]
  simp

/-! ### bits -/
theorem wraps_i64 (n : Int) (h₀ : 0 ≤ n) (h₁ : n < 2 ^ 63) : IntKind.i64.wrap n = n := by rw [IntKind.wrap_i64]; omega
/-- The low bits of any whole number. -/
theorem and_low (i : Nat) (hi : i ≤ 62) (x : Int) : Go.bits .and .i64 x (2 ^ i - 1) = x % 2 ^ i := by
  have hpos : 0 < 2 ^ i := Nat.two_pow_pos i
  have h62 : 2 ^ i ≤ 2 ^ 62 := Nat.pow_le_pow_right (by decide) hi
  have hc : ((2 : Int) ^ i - 1) = ((2 ^ i - 1 : Nat) : Int) := by
    rw [Int.natCast_sub hpos]; simp
  have hx0 : 0 ≤ x % 18446744073709551616 := Int.emod_nonneg _ (by decide)
  have hx : (BitVec.ofInt 64 x).toNat = (x % 18446744073709551616).toNat := by rw [BitVec.toNat_ofInt]; rfl
  have hd : ((2 : Int) ^ i) ∣ 18446744073709551616 := by
    rw [show (18446744073709551616 : Int) = 2 ^ 64 from rfl]
    exact ⟨2 ^ (64 - i), by rw [← Int.pow_add, show i + (64 - i) = 64 from by omega]⟩
  have h2 : ((x % 18446744073709551616).toNat % 2 ^ i : Nat) = (x % 2 ^ i).toNat := by
    apply Int.ofNat.inj
    have e1 : (((x % 18446744073709551616).toNat % 2 ^ i : Nat) : Int) = x % 2 ^ i := by
      rw [Int.natCast_emod, Int.toNat_of_nonneg hx0, Int.natCast_pow]
      exact Int.emod_emod_of_dvd _ hd
    have e2 : 0 ≤ x % 2 ^ i := Int.emod_nonneg _ (by have : (0 : Int) < 2 ^ i := Int.pow_pos (by decide); omega)
    exact e1.trans (Int.toNat_of_nonneg e2).symm
  have e2 : 0 ≤ x % 2 ^ i := Int.emod_nonneg _ (by have : (0 : Int) < 2 ^ i := Int.pow_pos (by decide); omega)
  have e3 : x % 2 ^ i < 2 ^ i := Int.emod_lt_of_pos _ (Int.pow_pos (by decide))
  have e4 : (2 : Int) ^ i ≤ 2 ^ 62 := by exact_mod_cast h62
  have key : Go.bits .and .i64 x (2 ^ i - 1) = IntKind.i64.wrap (((BitVec.ofInt 64 x).toNat &&& (BitVec.ofInt 64 ((2 ^ i - 1 : Nat) : Int)).toNat : Nat) : Int) := by
    rw [hc]
    show IntKind.i64.wrap ((BitVec.ofInt 64 x &&& BitVec.ofInt 64 ((2 ^ i - 1 : Nat) : Int)).toNat : Int) = _
    rw [BitVec.toNat_and]
  rw [key, hx]
  have hm : (BitVec.ofInt 64 ((2 ^ i - 1 : Nat) : Int)).toNat = 2 ^ i - 1 := by
    rw [BitVec.ofInt_natCast, BitVec.toNat_ofNat]
    exact Nat.mod_eq_of_lt (by omega)
  rw [hm, Nat.and_two_pow_sub_one_eq_mod, h2, Int.toNat_of_nonneg e2]
  exact wraps_i64 _ e2 (by omega)
theorem and_65535 (x : Int) : Go.bits .and .i64 x 65535 = x % 65536 := and_low 16 (by decide) x
theorem and_255 (x : Int) : Go.bits .and .i64 x 255 = x % 256 := and_low 8 (by decide) x
theorem nat_and_high (a n : Nat) (ha : a < 2 ^ 32) (hn : n ≤ 32) : a &&& ((2 ^ (32 - n) - 1) * 2 ^ n) = a / 2 ^ n * 2 ^ n := by
  apply Nat.eq_of_testBit_eq
  intro i
  rw [Nat.testBit_and, Nat.testBit_mul_two_pow, Nat.testBit_mul_two_pow, Nat.testBit_div_two_pow, Nat.testBit_two_pow_sub_one]
  by_cases h : n ≤ i
  · simp only [h, decide_true, Bool.true_and]
    rw [show i - n + n = i from by omega]
    by_cases h3 : i - n < 32 - n
    · simp [h3]
    · have : a.testBit i = false := Nat.testBit_lt_two_pow (Nat.lt_of_lt_of_le ha (Nat.pow_le_pow_right (by decide) (by omega)))
      simp [this]
  · simp [h]
theorem and_high (a : Int) (n : Nat) (h0 : 0 ≤ a) (h1 : a ≤ 4294967295) (hn : n ≤ 32) : Go.bits .and .i64 a ((2 ^ (32 - n) - 1) * 2 ^ n) = a / 2 ^ n * 2 ^ n := by
  obtain ⟨b, rfl⟩ := Int.eq_ofNat_of_zero_le h0
  have hc : (((2 : Int) ^ (32 - n) - 1) * 2 ^ n) = (((2 ^ (32 - n) - 1) * 2 ^ n : Nat) : Int) := by
    rw [Int.natCast_mul, Int.natCast_sub (Nat.two_pow_pos _)]; simp
  have hl : (2 ^ (32 - n) - 1) * 2 ^ n ≤ 4294967295 := by
    rw [Nat.sub_mul, ← Nat.pow_add, show 32 - n + n = 32 from by omega]
    have := Nat.two_pow_pos n
    omega
  rw [hc, (bits_nat .i64 63 (by decide) wraps_i64 b _ (by omega) (by omega)).1, nat_and_high b n (by omega) hn]
  simp

/-! ### lists -/
theorem rd_at {xs : List Int} {i : Nat} (h : i < xs.length) : rd xs (i : Int) = xs[i] := by
  unfold rd
  rw [Int.toNat_natCast, List.getD_eq_getElem?_getD, List.getElem?_eq_getElem h]
  rfl
theorem wr_succ {i n : Nat} (h : i < n) (hn : n ≤ 281474976710656) : wrap64 ((i : Int) + 1) = ((i + 1 : Nat) : Int) := by
  rw [wr64 (by omega)]
  omega
theorem maxLen_le {n : Nat} (h : n ≤ 1048576) : n ≤ 281474976710656 := by omega

/-! ### addr0 -/
theorem in_f (a l h : Int) : spec_l01In.f a l h = some (decide (l ≤ a ∧ a ≤ h)) := by
  unfold spec_l01In.f
  by_cases h1 : a ≥ l
  · rw [if_pos h1]; congr 1; rw [decide_eq_decide]; omega
  · rw [if_neg h1]; congr 1; rw [eq_comm, decide_eq_false_iff_not]; omega

/-! ### addr -/
theorem addrOK_f (a : Int) : spec_l02AddrOK.f a = some (decide (0 ≤ a ∧ a ≤ 4294967295)) := by
  unfold spec_l02AddrOK.f
  rw [in_f]
  rfl
theorem isAddr_f (a : Int) : impl_isAddr.f a = some (decide (0 ≤ a ∧ a ≤ 4294967295)) := by
  unfold impl_isAddr.f
  by_cases h1 : a ≥ 0
  · rw [if_pos h1]; congr 1; rw [decide_eq_decide]; omega
  · rw [if_neg h1]; congr 1; rw [eq_comm, decide_eq_false_iff_not]; omega

/-! ### prefix -/
theorem bits33 {b : Int} (h : 0 ≤ b ∧ b ≤ 32) : b = 0 ∨ b = 1 ∨ b = 2 ∨ b = 3 ∨ b = 4 ∨ b = 5 ∨ b = 6 ∨ b = 7 ∨ b = 8 ∨ b = 9 ∨ b = 10 ∨ b = 11 ∨ b = 12 ∨ b = 13 ∨ b = 14 ∨ b = 15 ∨ b = 16 ∨ b = 17 ∨ b = 18 ∨ b = 19 ∨ b = 20 ∨ b = 21 ∨ b = 22 ∨ b = 23 ∨ b = 24 ∨ b = 25 ∨ b = 26 ∨ b = 27 ∨ b = 28 ∨ b = 29 ∨ b = 30 ∨ b = 31 ∨ b = 32 := by omega
/-- How many addresses a prefix of so many bits has. -/
def sz (b : Int) : Int := 2 ^ (32 - b).toNat
theorem sz_pos (b : Int) : 0 < sz b := Int.pow_pos (by decide)
theorem sz_le {b : Int} (h : 0 ≤ b ∧ b ≤ 32) : sz b ≤ 4294967296 := by
  rcases bits33 h with rfl | rfl | rfl | rfl | rfl | rfl | rfl | rfl | rfl | rfl | rfl | rfl | rfl | rfl | rfl | rfl | rfl | rfl | rfl | rfl | rfl | rfl | rfl | rfl | rfl | rfl | rfl | rfl | rfl | rfl | rfl | rfl | rfl <;> decide
theorem size_f {b : Int} (h : 0 ≤ b ∧ b ≤ 32) {k : Nat} (hk : 40 ≤ k) : spec_l02Size.f k b = some (sz b) := by
  have h0 : spec_l02Size.f 40 b = some (sz b) := by
    rcases bits33 h with rfl | rfl | rfl | rfl | rfl | rfl | rfl | rfl | rfl | rfl | rfl | rfl | rfl | rfl | rfl | rfl | rfl | rfl | rfl | rfl | rfl | rfl | rfl | rfl | rfl | rfl | rfl | rfl | rfl | rfl | rfl | rfl | rfl <;> decide +kernel
  exact at_rounds (fun k => spec_l02Size.mono b k) hk h0
theorem mask_f {b : Int} (h : 0 ≤ b ∧ b ≤ 32) : impl_mask.f b = some ((2 ^ (32 - (32 - b).toNat) - 1) * 2 ^ (32 - b).toNat) := by
  rcases bits33 h with rfl | rfl | rfl | rfl | rfl | rfl | rfl | rfl | rfl | rfl | rfl | rfl | rfl | rfl | rfl | rfl | rfl | rfl | rfl | rfl | rfl | rfl | rfl | rfl | rfl | rfl | rfl | rfl | rfl | rfl | rfl | rfl | rfl <;> decide +kernel
theorem and_mask {a b : Int} (h : 0 ≤ b ∧ b ≤ 32) (ha : 0 ≤ a ∧ a ≤ 4294967295) : Go.bits .and .i64 a ((2 ^ (32 - (32 - b).toNat) - 1) * 2 ^ (32 - b).toNat) = a / sz b * sz b :=
  and_high a _ ha.1 ha.2 (by omega)
/-- A prefix is valid. -/
def okP (a b : Int) : Prop := (0 ≤ a ∧ a ≤ 4294967295) ∧ (0 ≤ b ∧ b ≤ 32) ∧ a % sz b = 0
instance (a b : Int) : Decidable (okP a b) := by unfold okP; exact inferInstance
theorem div_back {a s : Int} (hs : 0 < s) : (a / s * s = a) ↔ a % s = 0 := by
  have := Int.mul_ediv_add_emod a s
  rw [Int.mul_comm] at this
  omega
theorem specOK_f (a b : Int) {k : Nat} (hk : 40 ≤ k) : spec_l02PrefixOK.f k a b = some (decide (okP a b)) := by
  unfold spec_l02PrefixOK.f okP
  rw [addrOK_f, in_f]
  simp only [Option.bind_some]
  by_cases ha : 0 ≤ a ∧ a ≤ 4294967295
  · by_cases hb : 0 ≤ b ∧ b ≤ 32
    · rw [size_f hb hk]
      have := sz_pos b
      simp only [ha, hb, and_self, decide_true, if_true, Option.bind_some, true_and]
      rw [if_neg (by omega), tm_pos _ ha.1]
      congr 1
    · simp [ha, hb]
  · simp [ha]
theorem implOK_f (a b : Int) : impl_okPrefix.f a b = some (decide (okP a b)) := by
  unfold impl_okPrefix.f okP
  rw [isAddr_f]
  simp only [Option.bind_some]
  by_cases ha : 0 ≤ a ∧ a ≤ 4294967295
  · by_cases hb : 0 ≤ b ∧ b ≤ 32
    · rw [mask_f hb]
      have hs := sz_pos b
      simp only [ha, and_self, decide_true, if_true, Option.bind_some, true_and]
      rw [if_pos (by omega), if_pos (by omega), and_mask hb ha]
      simp only [hb, and_self, true_and]
      congr 1
      have := div_back (a := a) hs
      rw [Bool.eq_iff_iff]
      simp only [beq_iff_eq, decide_eq_true_eq]
      exact this
    · simp only [ha, hb, and_self, decide_true, if_true, false_and, and_false, decide_false]
      by_cases h1 : b ≥ 0
      · rw [if_pos h1, if_neg (by omega)]
      · rw [if_neg h1]
  · simp [ha]

/-! ### hasimpl -/
theorem mul_eq_iff {q a s : Int} (hs : 0 < s) (h : a % s = 0) : q * s = a ↔ q = a / s := by
  have := Int.mul_ediv_add_emod a s
  constructor
  · intro e
    rw [← e, Int.mul_ediv_cancel _ (by omega)]
  · intro e
    rw [e, Int.mul_comm]
    omega
/-- An address is one of a prefix. -/
def hasP (a b x : Int) : Bool := decide (okP a b) && decide (0 ≤ x ∧ x ≤ 4294967295) && (x / sz b == a / sz b)
theorem ediv_small {a s : Int} (ha : 0 ≤ a ∧ a ≤ 4294967295) (hs : 0 < s) : 0 ≤ a / s ∧ a / s ≤ 4294967295 := by
  refine ⟨Int.ediv_nonneg ha.1 (by omega), ?_⟩
  have := Int.ediv_le_self s ha.1
  omega
theorem implHas_f (a b x : Int) : impl_PrefixHas.f a b x = some (hasP a b x) := by
  unfold impl_PrefixHas.f hasP
  rw [implOK_f, isAddr_f]
  simp only [Option.bind_some]
  by_cases h : okP a b
  · by_cases hx : 0 ≤ x ∧ x ≤ 4294967295
    · have hs := sz_pos b
      rw [mask_f h.2.1]
      simp only [h, hx, and_self, decide_true, if_true, Option.bind_some, Bool.true_and]
      rw [and_mask h.2.1 hx]
      congr 1
      rw [Bool.eq_iff_iff]
      simp only [beq_iff_eq]
      exact mul_eq_iff hs h.2.2
    · simp [h, hx]
  · simp [h]

/-! ### has -/
theorem specHas_f (a b x : Int) {k : Nat} (hk : 40 ≤ k) : spec_PrefixHas.f k a b x = some (hasP a b x) := by
  unfold spec_PrefixHas.f hasP
  rw [specOK_f _ _ hk, addrOK_f]
  simp only [Option.bind_some]
  by_cases h : okP a b
  · by_cases hx : 0 ≤ x ∧ x ≤ 4294967295
    · have hs := sz_pos b
      rw [size_f h.2.1 hk]
      simp only [h, hx, and_self, decide_true, if_true, Option.bind_some, Bool.true_and]
      rw [if_neg (by omega), if_neg (by omega), td_pos _ hx.1, td_pos _ h.1.1]
      have h1 := ediv_small hx hs
      have h2 := ediv_small h.1 hs
      rw [wr64 (by omega), wr64 (by omega)]
    · simp [h, hx]
  · simp [h]

/-! ### kind -/
theorem kind_eq (a : Int) : spec_AddrKind.f a = impl_AddrKind.f a := by
  unfold spec_AddrKind.f impl_AddrKind.f
  rw [addrOK_f, isAddr_f]
  simp only [Option.bind_some]
  by_cases h : 0 ≤ a ∧ a ≤ 4294967295
  · simp only [h, and_self, decide_true, if_true]
    repeat' split
    all_goals first | rfl | omega
  · simp [h]
theorem kind_some (a : Int) : ∃ r, impl_AddrKind.f a = some r := by
  unfold impl_AddrKind.f
  rw [isAddr_f]
  simp only [Option.bind_some]
  repeat' split
  all_goals exact ⟨_, rfl⟩

/-! ### route -/
def okV (a : Int) : Bool := impl_AddrKind.f a == some 6
def okR (r : S76) : Bool := decide (okP r.f0.f0 r.f0.f1) && (decide (r.f1 = 0) || okV r.f1) && decide (0 ≤ r.f2 ∧ r.f2 ≤ 7) && decide (0 ≤ r.f3 ∧ r.f3 ≤ 1000000)
theorem specR_f (r : S76) {k : Nat} (hk : 40 ≤ k) : spec_l08OK.f k r.f0.f0 r.f0.f1 r.f1 r.f2 r.f3 = some (okR r) := by
  unfold spec_l08OK.f okR okV
  rw [specOK_f _ _ hk, kind_eq]
  obtain ⟨q, hq⟩ := kind_some r.f1
  rw [hq]
  simp only [in_f, Option.bind_some]
  by_cases h1 : okP r.f0.f0 r.f0.f1
  · by_cases h2 : r.f1 = 0
    · by_cases h3 : 0 ≤ r.f2 ∧ r.f2 ≤ 7 <;> simp [h1, h2, h3]
    · by_cases h4 : q = 6
      · by_cases h3 : 0 ≤ r.f2 ∧ r.f2 ≤ 7 <;> simp [h1, h2, h3, h4]
      · simp [h1, h2, h4]
  · simp [h1]
theorem implR_f (r : S76) : impl_okRoute.f r.f0.f0 r.f0.f1 r.f1 r.f2 r.f3 = some (okR r) := by
  unfold impl_okRoute.f okR okV
  rw [implOK_f]
  obtain ⟨q, hq⟩ := kind_some r.f1
  rw [hq]
  simp only [Option.bind_some]
  have e : (if r.f2 ≥ 0 then (if r.f2 ≤ 7 then (if r.f3 ≥ 0 then (some (decide (r.f3 ≤ 1000000))) else (some false)) else (some false)) else (some false)) = some (decide (0 ≤ r.f2 ∧ r.f2 ≤ 7) && decide (0 ≤ r.f3 ∧ r.f3 ≤ 1000000)) := by
    by_cases h1 : r.f2 ≥ 0 <;> by_cases h2 : r.f2 ≤ 7 <;> by_cases h3 : r.f3 ≥ 0 <;> simp [h1, h2, h3]
  rw [e]
  by_cases h1 : okP r.f0.f0 r.f0.f1
  · by_cases h2 : r.f1 = 0
    · simp [h1, h2]
    · by_cases h4 : q = 6 <;> simp [h1, h2, h4]
  · simp [h1]
theorem rdR {l : List S76} {i : Nat} (h : i < l.length) : rd_T76 l (i : Int) = l[i] := by
  unfold rd_T76
  rw [Int.toNat_natCast, List.getD_eq_getElem?_getD, List.getElem?_eq_getElem h]
  rfl
def valid (d : Int) (r : S76) : Bool := okR r && hasP r.f0.f0 r.f0.f1 d
def stI (d : Int) (b : Option S76) (r : S76) : Option S76 := if valid d r = true then (match b with | none => some r | some c => if r.f0.f1 > c.f0.f1 then some r else if r.f0.f1 = c.f0.f1 then (if r.f3 < c.f3 then some r else b) else b) else b
def stS (d n : Int) (b : Option S76) (r : S76) : Option S76 := if valid d r = true then (if r.f0.f1 = n then (match b with | none => some r | some c => if r.f3 < c.f3 then some r else b) else b) else b
def ot (c : Option S76) : Int × Int × Int × Int × Int × Bool := ((c.getD z76).f0.f0, (c.getD z76).f0.f1, (c.getD z76).f1, (c.getD z76).f2, (c.getD z76).f3, c.isSome)
theorem implL (l : List S76) (d : Int) (hn : l.length ≤ 1048576) (m : Nat) : ∀ (k i : Nat) (b : Option S76), i + m = l.length → m < k → impl_FindRoute.l0 k d b.isSome l (l.length : Int) (i : Int) (b.getD z76).f0.f0 (b.getD z76).f0.f1 (b.getD z76).f1 (b.getD z76).f2 (b.getD z76).f3 = some (ot ((l.drop i).foldl (stI d) b)) := by
  induction m with
  | zero =>
    intro k i b hi hk
    obtain ⟨k, rfl⟩ : ∃ m, k = m + 1 := ⟨k - 1, by omega⟩
    rw [impl_FindRoute.l0, if_neg (by omega), List.drop_eq_nil_of_le (by omega)]
    rfl
  | succ m ih =>
    intro k i b hi hk
    obtain ⟨k, rfl⟩ : ∃ m, k = m + 1 := ⟨k - 1, by omega⟩
    rw [impl_FindRoute.l0, if_pos (by omega), if_pos (by omega), if_pos (by omega), rdR (by omega), implR_f, wr_succ (n := l.length) (by omega) (by omega), List.drop_eq_getElem_cons (show i < l.length by omega), List.foldl_cons]
    simp only [Option.bind_some, implHas_f]
    have go := fun b => ih k (i + 1) b (by omega) (by omega)
    obtain ⟨r, hr⟩ : ∃ r, r = l[i] := ⟨_, rfl⟩
    rw [← hr]
    have h1 := go b
    have h2 := go (some r)
    simp only [Option.isSome_some, Option.getD_some] at h2
    unfold stI valid
    by_cases e1 : okR r = true
    · rw [if_pos e1]
      by_cases e2 : hasP r.f0.f0 r.f0.f1 d = true
      · rw [if_pos e2, if_pos (show (okR r && hasP r.f0.f0 r.f0.f1 d) = true by rw [e1, e2]; rfl)]
        cases b with
        | none =>
          rw [if_neg (by simp)]
          exact h2
        | some c =>
          simp only [Option.isSome_some, Option.getD_some, if_true] at h1 ⊢
          by_cases e3 : r.f0.f1 > c.f0.f1
          · rw [if_pos e3, if_pos e3]
            exact h2
          · rw [if_neg e3, if_neg e3]
            by_cases e4 : r.f0.f1 = c.f0.f1
            · rw [if_pos e4, if_pos e4]
              by_cases e5 : r.f3 < c.f3
              · rw [if_pos e5, if_pos e5]
                exact h2
              · rw [if_neg e5, if_neg e5]
                exact h1
            · rw [if_neg e4, if_neg e4]
              exact h1
      · rw [if_neg e2, if_neg (show ¬ (okR r && hasP r.f0.f0 r.f0.f1 d) = true by rw [e1]; simpa using e2)]
        exact h1
    · rw [if_neg e1, if_neg (show ¬ (okR r && hasP r.f0.f0 r.f0.f1 d) = true by simp [e1])]
      exact h1
def Rl (a : Option S76) (b : Int → Option S76) : Prop := (a = none → ∀ n, b n = none) ∧ ∀ c, a = some c → b c.f0.f1 = some c ∧ (∀ n, n > c.f0.f1 → b n = none) ∧ (0 ≤ c.f0.f1 ∧ c.f0.f1 ≤ 32)
theorem okR_bits {d : Int} {r : S76} (h : valid d r = true) : 0 ≤ r.f0.f1 ∧ r.f0.f1 ≤ 32 := by
  unfold valid okR okP at h
  simp only [Bool.and_eq_true] at h
  exact (of_decide_eq_true h.1.1.1.1).2.1
theorem Rl_step {a : Option S76} {b : Int → Option S76} (d : Int) (r : S76) (h : Rl a b) : Rl (stI d a r) (fun n => stS d n (b n) r) := by
  unfold stI stS
  by_cases hv : valid d r = true
  · simp only [hv, if_true]
    have hb := okR_bits hv
    cases a with
    | none =>
      have h0 := h.1 rfl
      refine ⟨fun e => by simp at e, fun c e => ?_⟩
      injection e with e
      subst e
      refine ⟨?_, fun n hn => ?_, hb⟩
      · simp only [if_true, h0]
      · simp only [if_neg (show ¬ r.f0.f1 = n by omega), h0]
    | some c =>
      obtain ⟨h1, h2, h3⟩ := h.2 c rfl
      by_cases e3 : r.f0.f1 > c.f0.f1
      · simp only [e3, if_true]
        refine ⟨fun e => by simp at e, fun c' e => ?_⟩
        injection e with e
        subst e
        refine ⟨?_, fun n hn => ?_, hb⟩
        · simp only [if_true, h2 _ e3]
        · simp only [if_neg (show ¬ r.f0.f1 = n by omega), h2 n (by omega)]
      · simp only [e3, if_false]
        by_cases e4 : r.f0.f1 = c.f0.f1
        · simp only [e4, if_true]
          by_cases e5 : r.f3 < c.f3
          · simp only [e5, if_true]
            refine ⟨fun e => by simp at e, fun c' e => ?_⟩
            injection e with e
            subst e
            rw [e4]
            refine ⟨?_, fun n hn => ?_, h3⟩
            · simp only [if_true, h1, e5]
            · simp only [if_neg (show ¬ c.f0.f1 = n by omega), h2 n (by omega)]
          · simp only [e5, if_false]
            refine ⟨fun e => by simp at e, fun c' e => ?_⟩
            injection e with e
            subst e
            refine ⟨?_, fun n hn => ?_, h3⟩
            · simp only [if_true, h1, e5, if_false]
            · simp only [if_neg (show ¬ c.f0.f1 = n by omega), h2 n (by omega)]
        · simp only [e4, if_false]
          refine ⟨fun e => by simp at e, fun c' e => ?_⟩
          injection e with e
          subst e
          refine ⟨?_, fun n hn => ?_, h3⟩
          · simp only [e4, if_false, h1]
          · by_cases e6 : r.f0.f1 = n
            · omega
            · simp only [e6, if_false, h2 n hn]
  · simp only [hv, if_false]
    exact h
theorem Rl_fold (d : Int) (l : List S76) : ∀ (a : Option S76) (b : Int → Option S76), Rl a b → Rl (l.foldl (stI d) a) (fun n => l.foldl (stS d n) (b n)) := by
  induction l with
  | nil => exact fun a b h => h
  | cons r l ih => exact fun a b h => ih _ _ (Rl_step d r h)
def best (d : Int) (l : List S76) : Option S76 := l.foldl (stI d) none
theorem Rl_best (d : Int) (l : List S76) : Rl (best d l) (fun n => l.foldl (stS d n) none) := Rl_fold d l none (fun _ => none) ⟨fun _ _ => rfl, fun c e => by simp at e⟩
theorem implFind_f (l : List S76) (d : Int) (hn : l.length ≤ 1048576) {k : Nat} (hk : l.length < k) : impl_FindRoute.f k l d = some (ot (best d l)) := by
  unfold impl_FindRoute.f
  exact implL l d hn l.length k 0 none (by omega) hk

/-! ### shown -/
theorem son_size (l : List Int) : (strOfNums l).size = l.length := by
  unfold strOfNums
  simp [ByteArray.size]
theorem dec_1 (a : Int) (k : Nat) (h : 0 ≤ a ∧ a < 10) : ∃ s, spec_l02Dec.f (k + 1) a = some s ∧ s.size ≤ 1 := by
  rw [spec_l02Dec.f, if_pos h.2]
  exact ⟨_, rfl, by rw [son_size]; simp⟩
theorem dec_up {a : Int} {k n : Nat} (hn : n ≤ 10) (h : 10 ≤ a ∧ a ≤ 1000000) (ih : ∃ s, spec_l02Dec.f k (a / 10) = some s ∧ s.size ≤ n) : ∃ s, spec_l02Dec.f (k + 1) a = some s ∧ s.size ≤ n + 1 := by
  obtain ⟨s, e, hs⟩ := ih
  rw [spec_l02Dec.f, if_neg (by omega), td_pos _ (by omega), wr64 (by omega), e]
  simp only [Option.bind_some]
  rw [if_pos (by rw [son_size]; simp; omega)]
  exact ⟨_, rfl, by rw [ByteArray.size_append, son_size]; simp; omega⟩
theorem dec_3 (a : Int) {k : Nat} (hk : 3 ≤ k) (h : 0 ≤ a ∧ a < 1000) : ∃ s, spec_l02Dec.f k a = some s ∧ s.size ≤ 3 := by
  obtain ⟨k, rfl⟩ : ∃ m, k = m + 1 + 1 + 1 := ⟨k - 3, by omega⟩
  by_cases h1 : a < 10
  · obtain ⟨s, e, hs⟩ := dec_1 a (k + 1 + 1) ⟨h.1, h1⟩
    exact ⟨s, e, by omega⟩
  · refine dec_up (n := 2) (by omega) (by omega) ?_
    by_cases h2 : a / 10 < 10
    · obtain ⟨s, e, hs⟩ := dec_1 (a / 10) (k + 1) (by omega)
      exact ⟨s, e, by omega⟩
    · refine dec_up (n := 1) (by omega) (by omega) ?_
      exact dec_1 (a / 10 / 10) k (by omega)
theorem dot_size (n : UInt8) : (⟨#[n]⟩ : ByteArray).size = 1 := rfl
theorem showA_f {a : Int} (h : 0 ≤ a ∧ a ≤ 4294967295) {k : Nat} (hk : 3 ≤ k) : ∃ s, spec_ShowAddr.f k a = some (s, 0) ∧ s.size ≤ 15 := by
  unfold spec_ShowAddr.f
  obtain ⟨s1, e1, h1⟩ := dec_3 (a / 16777216) hk (by omega)
  obtain ⟨s2, e2, h2⟩ := dec_3 (a / 65536 % 256) hk (by omega)
  obtain ⟨s3, e3, h3⟩ := dec_3 (a / 256 % 256) hk (by omega)
  obtain ⟨s4, e4, h4⟩ := dec_3 (a % 256) hk (by omega)
  rw [addrOK_f, decide_eq_true h, and_255, and_255, and_255, e1, e2, e3, e4]
  simp only [Option.bind_some, if_true]
  rw [if_pos (by omega), if_pos (by simp only [ByteArray.size_append, dot_size]; omega), if_pos (by simp only [ByteArray.size_append, dot_size]; omega), if_pos (by simp only [ByteArray.size_append, dot_size]; omega), if_pos (by simp only [ByteArray.size_append, dot_size]; omega), if_pos (by simp only [ByteArray.size_append, dot_size]; omega)]
  exact ⟨_, rfl, by simp only [ByteArray.size_append, dot_size]; omega⟩
theorem showP_f (a b : Int) {k : Nat} (hk : 40 ≤ k) : ∃ s, spec_ShowPrefix.f k a b = some (s, if okP a b then 0 else 1) := by
  unfold spec_ShowPrefix.f
  rw [specOK_f _ _ hk]
  simp only [Option.bind_some]
  by_cases h : okP a b
  · obtain ⟨s1, e1, h1⟩ := showA_f h.1 (k := k) (by omega)
    obtain ⟨s2, e2, h2⟩ := dec_3 b (k := k) (by omega) (by have := h.2.1; omega)
    rw [e1, e2]
    simp only [h, decide_true, if_true, Option.bind_some]
    rw [if_pos (by omega), if_pos (by simp only [ByteArray.size_append, dot_size]; omega)]
    exact ⟨_, rfl⟩
  · simp only [h, decide_false, Bool.false_eq_true, if_false]
    exact ⟨_, rfl⟩

/-! ### drawbase -/
theorem u64_nn (y : Int) : 0 ≤ IntKind.u64.wrap y := by simp [IntKind.wrap, IntKind.bits, IntKind.signed]; omega
theorem u64_id {y : Int} (h : 0 ≤ y ∧ y ≤ 9223372036854775807) : IntKind.u64.wrap y = y := by simp [IntKind.wrap, IntKind.bits, IntKind.signed]; omega
theorem xor_nn (a b : Int) : 0 ≤ Go.bits .xor .u64 a b := by
  show 0 ≤ IntKind.u64.wrap _
  exact u64_nn _
theorem mod_in {x n : Int} (hx : 0 ≤ x) (hn : 0 < n) (h2 : n ≤ 4611686018427387904) : 0 ≤ wrap64 (Int.tmod x n) ∧ wrap64 (Int.tmod x n) < n := by
  have e : Int.tmod x n = x % n := tm_pos n hx
  have h0 := Int.emod_nonneg x (show n ≠ 0 by omega)
  have h1 := Int.emod_lt_of_pos x hn
  rw [e, wr64 (by omega)]
  exact ⟨h0, h1⟩

/-! ### l01draw2 -/
theorem l01b_l (l : List Int) (hn : l.length ≤ 2097152) (m : List Int) (p : Int) (d : Nat) : ∀ (k i : Nat) (st : Int), i + d = l.length → d < k → ∃ st', spec_l01Begin.l0 k l (i : Int) m p st = some (p, st') := by
  induction d with
  | zero =>
    intro k i st hi hk
    obtain ⟨k, rfl⟩ : ∃ m, k = m + 1 := ⟨k - 1, by omega⟩
    simp only [spec_l01Begin.l0]
    rw [if_neg (by omega)]
    exact ⟨st, rfl⟩
  | succ d ih =>
    intro k i st hi hk
    obtain ⟨k, rfl⟩ : ∃ m, k = m + 1 := ⟨k - 1, by omega⟩
    simp only [spec_l01Begin.l0]
    rw [if_pos (by omega), if_pos (by omega), wr_succ (n := l.length) (by omega) (by omega)]
    exact ih k (i + 1) _ (by omega) (by omega)
theorem l01b_f {l : List Int} (hn : l.length ≤ 2097152) {k : Nat} (hk : l.length < k) : ∃ st, spec_l01Begin.f k l = some (0, st) := by
  unfold spec_l01Begin.f
  exact l01b_l l hn l 0 l.length k 0 _ (by omega) hk
theorem l01n_f {l : List Int} (hl : l.length ≤ 2097152) {p : Int} (st : Int) {n : Int} (hp : 0 ≤ p) (hn : 0 < n) (h2 : n ≤ 4611686018427387904) : ∃ r p' st', spec_l01Next.f l p st n = some (r, p', st') ∧ 0 ≤ r ∧ r < n ∧ 0 ≤ p' := by
  unfold spec_l01Next.f
  rw [if_neg (show ¬ n ≤ 0 by omega), u64_id (y := n) (by omega)]
  by_cases h : p < (l.length : Int)
  · rw [if_pos h, if_pos hp, if_neg (show ¬ n = 0 by omega)]
    have := mod_in (xor_nn (IntKind.u64.wrap (IntKind.u64.wrap (st * 6364136223846793005) + 1442695040888963407) / 8589934592) (IntKind.u64.wrap (rd l p))) hn h2
    exact ⟨_, _, _, rfl, this.1, this.2, by rw [wr64 (by omega)]; omega⟩
  · rw [if_neg h, if_neg (show ¬ n = 0 by omega)]
    have hq : 0 ≤ IntKind.u64.wrap (IntKind.u64.wrap (st * 6364136223846793005) + 1442695040888963407) / 8589934592 := by
      have := u64_nn (IntKind.u64.wrap (st * 6364136223846793005) + 1442695040888963407)
      omega
    have := mod_in hq hn h2
    exact ⟨_, _, _, rfl, this.1, this.2, hp⟩

/-! ### drawaddr -/
theorem host_f {l : List Int} (hl : l.length ≤ 2097152) {p : Int} (st : Int) (hp : 0 ≤ p) : ∃ r p' st', spec_l02Host.f l p st = some (r, p', st') ∧ (0 ≤ r ∧ r ≤ 4294967295) ∧ 0 ≤ p' := by
  unfold spec_l02Host.f
  obtain ⟨x, p1, s1, e, h0, h1, hp1⟩ := l01n_f hl st (n := 2) hp (by omega) (by omega)
  rw [e]
  simp only [Option.bind_some]
  obtain ⟨y, p2, s2, e, h2, h3, hp2⟩ := l01n_f hl s1 (n := 6) hp1 (by omega) (by omega)
  rw [e]
  refine ⟨_, _, _, rfl, ?_, hp2⟩
  rw [wr64 (a := x * 256) (by omega), wr64 (a := 167772160 + x * 256) (by omega), wr64 (a := 167772160 + x * 256 + 1) (by omega), wr64 (by omega)]
  omega
theorem pre_f {l : List Int} (hl : l.length ≤ 2097152) {p : Int} (st : Int) (hp : 0 ≤ p) {k : Nat} (hk : 40 ≤ k) : ∃ a b p' st', spec_l02Prefix.f k l p st = some (a, b, p', st') ∧ 0 ≤ p' := by
  unfold spec_l02Prefix.f
  obtain ⟨r, p1, s1, e, hr, hp1⟩ := host_f hl st hp
  rw [e]
  simp only [Option.bind_some]
  obtain ⟨x, p2, s2, e, h0, h1, hp2⟩ := l01n_f hl s1 (n := 33) hp1 (by omega) (by omega)
  rw [e]
  simp only [Option.bind_some]
  obtain ⟨y, p3, s3, e, _, _, hp3⟩ := l01n_f hl s2 (n := 2) hp2 (by omega) (by omega)
  rw [e]
  simp only [Option.bind_some]
  split
  · obtain ⟨z, p4, s4, e, h2, h3, hp4⟩ := l01n_f hl s3 (n := 11) hp3 (by omega) (by omega)
    rw [e]
    simp only [Option.bind_some]
    have := sz_pos (22 + z)
    rw [wr64 (a := 22 + z) (by omega), size_f (b := 22 + z) (by omega) hk]
    simp only [Option.bind_some]
    rw [if_neg (by omega)]
    exact ⟨_, _, _, _, rfl, hp4⟩
  · have := sz_pos x
    rw [size_f (b := x) (by omega) hk]
    simp only [Option.bind_some]
    rw [if_neg (by omega)]
    exact ⟨_, _, _, _, rfl, hp3⟩
theorem ill_f {l : List Int} (hl : l.length ≤ 2097152) {p : Int} (st : Int) (hp : 0 ≤ p) {k : Nat} (hk : 40 ≤ k) : ∃ a b p' st', spec_l02Ill.f k l p st = some (a, b, p', st') ∧ 0 ≤ p' := by
  unfold spec_l02Ill.f
  obtain ⟨a, b, p1, s1, e, hp1⟩ := pre_f hl st hp hk
  rw [e]
  simp only [Option.bind_some]
  obtain ⟨x, p2, s2, e, h0, h1, hp2⟩ := l01n_f hl s1 (n := 12) hp1 (by omega) (by omega)
  rw [e]
  simp only [Option.bind_some]
  repeat' split
  all_goals exact ⟨_, _, _, _, rfl, hp2⟩
theorem wide2_f {l : List Int} (hl : l.length ≤ 2097152) {p : Int} (st : Int) (hp : 0 ≤ p) : ∃ r p' st', spec_l02Wide.f l p st = some (r, p', st') ∧ 0 ≤ p' := by
  unfold spec_l02Wide.f
  obtain ⟨x, p1, s1, e, h0, h1, hp1⟩ := l01n_f hl st (n := 65536) hp (by omega) (by omega)
  rw [e]
  simp only [Option.bind_some]
  obtain ⟨y, p2, s2, e, h2, h3, hp2⟩ := l01n_f hl s1 (n := 65536) hp1 (by omega) (by omega)
  rw [e]
  exact ⟨_, _, _, rfl, hp2⟩
theorem daddr2_f {l : List Int} (hl : l.length ≤ 2097152) {p : Int} (st : Int) (hp : 0 ≤ p) : ∃ r p' st', spec_l02Addr.f l p st = some (r, p', st') ∧ 0 ≤ p' := by
  unfold spec_l02Addr.f
  obtain ⟨x, p1, s1, e, h0, h1, hp1⟩ := l01n_f hl st (n := 8) hp (by omega) (by omega)
  rw [e]
  simp only [Option.bind_some]
  split
  · obtain ⟨r, p2, s2, e, hp2⟩ := wide2_f hl s1 hp1
    rw [e]
    exact ⟨_, _, _, rfl, hp2⟩
  · split
    · obtain ⟨y, p2, s2, e, h2, h3, hp2⟩ := l01n_f hl s1 (n := 10) hp1 (by omega) (by omega)
      rw [e]
      simp only [Option.bind_some]
      rw [if_pos h2, if_pos (by simp; omega)]
      exact ⟨_, _, _, rfl, hp2⟩
    · obtain ⟨y, p2, s2, e, h2, h3, hp2⟩ := l01n_f hl s1 (n := 6) hp1 (by omega) (by omega)
      rw [e]
      exact ⟨_, _, _, rfl, hp2⟩
theorem bool_f {l : List Int} (hl : l.length ≤ 2097152) {p : Int} (st : Int) (hp : 0 ≤ p) : ∃ r p' st', spec_l01Bool.f l p st = some (r, p', st') ∧ 0 ≤ p' := by
  unfold spec_l01Bool.f
  obtain ⟨x, p1, s1, e, h0, h1, hp1⟩ := l01n_f hl st (n := 2) hp (by omega) (by omega)
  rw [e]
  exact ⟨_, _, _, rfl, hp1⟩

/-! ### the law -/
theorem dec_7 (a : Int) {k : Nat} (hk : 10 ≤ k) (h : 0 ≤ a ∧ a ≤ 1000000) : ∃ s, spec_l02Dec.f k a = some s ∧ s.size ≤ 7 := by
  obtain ⟨k, rfl⟩ : ∃ m, k = m + 1 + 1 + 1 + 1 := ⟨k - 4, by omega⟩
  have d3 := fun (a : Int) (k : Nat) (hk : 3 ≤ k) (h : 0 ≤ a ∧ a < 1000) => dec_3 a hk h
  have d4 : ∀ (a : Int) (k : Nat), 3 ≤ k → 0 ≤ a ∧ a < 10000 → ∃ s, spec_l02Dec.f (k + 1) a = some s ∧ s.size ≤ 4 := by
    intro a k hk h
    by_cases c : a < 1000
    · obtain ⟨s, e, hs⟩ := d3 a (k + 1) (by omega) ⟨h.1, c⟩
      exact ⟨s, e, by omega⟩
    · exact dec_up (n := 3) (by omega) (by omega) (d3 (a / 10) k hk (by omega))
  have d5 : ∀ (a : Int) (k : Nat), 3 ≤ k → 0 ≤ a ∧ a < 100000 → ∃ s, spec_l02Dec.f (k + 1 + 1) a = some s ∧ s.size ≤ 5 := by
    intro a k hk h
    by_cases c : a < 10000
    · obtain ⟨s, e, hs⟩ := d4 a (k + 1) (by omega) ⟨h.1, c⟩
      exact ⟨s, e, by omega⟩
    · exact dec_up (n := 4) (by omega) (by omega) (d4 (a / 10) k hk (by omega))
  have d6 : ∀ (a : Int) (k : Nat), 3 ≤ k → 0 ≤ a ∧ a < 1000000 → ∃ s, spec_l02Dec.f (k + 1 + 1 + 1) a = some s ∧ s.size ≤ 6 := by
    intro a k hk h
    by_cases c : a < 100000
    · obtain ⟨s, e, hs⟩ := d5 a (k + 1) (by omega) ⟨h.1, c⟩
      exact ⟨s, e, by omega⟩
    · exact dec_up (n := 5) (by omega) (by omega) (d5 (a / 10) k hk (by omega))
  by_cases c : a < 1000000
  · obtain ⟨s, e, hs⟩ := d6 a (k + 1) (by omega) ⟨h.1, c⟩
    exact ⟨s, e, by omega⟩
  · exact dec_up (n := 6) (by omega) (by omega) (d6 (a / 10) k (by omega) (by omega))
theorem showP_sz {a b : Int} (h : okP a b) {k : Nat} (hk : 40 ≤ k) : ∃ s, spec_ShowPrefix.f k a b = some (s, 0) ∧ s.size ≤ 19 := by
  unfold spec_ShowPrefix.f
  rw [specOK_f _ _ hk]
  simp only [Option.bind_some]
  obtain ⟨s1, e1, h1⟩ := showA_f h.1 (k := k) (by omega)
  obtain ⟨s2, e2, h2⟩ := dec_3 b (k := k) (by omega) (by have := h.2.1; omega)
  rw [e1, e2]
  simp only [h, decide_true, if_true, Option.bind_some]
  rw [if_pos (by omega), if_pos (by simp only [ByteArray.size_append, dot_size]; omega)]
  exact ⟨_, rfl, by simp only [ByteArray.size_append, dot_size]; omega⟩
theorem okV_in {a : Int} (h : okV a = true) : 0 ≤ a ∧ a ≤ 4294967295 := by
  unfold okV impl_AddrKind.f at h
  rw [isAddr_f] at h
  by_cases c : 0 ≤ a ∧ a ≤ 4294967295
  · exact c
  · simp [c] at h
theorem okR_parts {r : S76} (h : okR r = true) : okP r.f0.f0 r.f0.f1 ∧ (r.f1 = 0 ∨ (0 ≤ r.f1 ∧ r.f1 ≤ 4294967295)) ∧ (0 ≤ r.f2 ∧ r.f2 ≤ 7) ∧ (0 ≤ r.f3 ∧ r.f3 ≤ 1000000) := by
  unfold okR at h
  simp only [Bool.and_eq_true, Bool.or_eq_true, decide_eq_true_eq] at h
  exact ⟨h.1.1.1, h.1.1.2.elim Or.inl (fun v => Or.inr (okV_in v)), h.1.2, h.2⟩
theorem z0 : (⟨#[]⟩ : ByteArray).size = 0 := rfl
theorem z5 (a b c d e : UInt8) : (⟨#[a, b, c, d, e]⟩ : ByteArray).size = 5 := rfl
theorem z6 (a b c d e f : UInt8) : (⟨#[a, b, c, d, e, f]⟩ : ByteArray).size = 6 := rfl
theorem z8 (a b c d e f g h : UInt8) : (⟨#[a, b, c, d, e, f, g, h]⟩ : ByteArray).size = 8 := rfl
theorem showR_end (r : S76) (t : ByteArray) (k : Nat) : spec_ShowRoutes.l0 (k + 1) [r] t 1 = some (t, 0) := by
  rw [spec_ShowRoutes.l0, if_neg (by simp)]
theorem showR_j {r : S76} (h : okR r = true) (t : ByteArray) (ht : t.size ≤ 60) {k : Nat} (hk : 20 ≤ k) : ∃ s, spec_ShowRoutes.j1 (k + 1 + 1) [r] t 0 r.f0.f0 r.f0.f1 r.f1 r.f2 r.f3 = some (s, 0) := by
  obtain ⟨h1, h2, h3, h4⟩ := okR_parts h
  obtain ⟨s1, e1, q1⟩ := dec_3 r.f2 (k := k + 1) (by omega) (by omega)
  obtain ⟨s2, e2, q2⟩ := dec_7 r.f3 (k := k + 1) (by omega) h4
  rw [spec_ShowRoutes.j1, if_pos (by omega), e1, Option.bind_some, if_pos (by simp only [ByteArray.size_append, z6]; omega)]
  have hw : wrap64 (0 + 1) = 1 := by rw [wr64 (by omega)]; rfl
  by_cases c : r.f3 = 0
  · rw [if_pos c, if_pos (by simp only [ByteArray.size_append, z6]; omega), hw, showR_end]
    exact ⟨_, rfl⟩
  · rw [if_neg c, if_pos (by simp only [ByteArray.size_append, z6]; omega), e2, Option.bind_some, if_pos (by simp only [ByteArray.size_append, z6, z8]; omega), if_pos (by simp only [ByteArray.size_append, z6, z8]; omega), hw, showR_end]
    exact ⟨_, rfl⟩
theorem showR1 (r : S76) {k : Nat} (hk : 100 ≤ k) : ∃ s, spec_ShowRoutes.f k [r] = some (s, if okR r = true then 0 else 1) := by
  obtain ⟨k, rfl⟩ : ∃ m, k = m + 1 + 1 + 1 := ⟨k - 3, by omega⟩
  unfold spec_ShowRoutes.f
  rw [if_neg (by simp), spec_ShowRoutes.l0, if_pos (by simp), if_pos (by omega), show rd_T76 [r] 0 = r from rfl, specR_f r (by omega), Option.bind_some]
  by_cases h : okR r = true
  · obtain ⟨h1, h2, h3, h4⟩ := okR_parts h
    obtain ⟨s1, e1, q1⟩ := showP_sz h1 (k := k + 1 + 1) (by omega)
    rw [if_pos h, if_pos h, e1, Option.bind_some]
    have q0 := z0
    rw [if_pos (show (⟨#[]⟩ : ByteArray).size + s1.size ≤ 9223372036854775807 by omega)]
    by_cases c : r.f1 = 0
    · rw [if_pos c]
      exact showR_j h _ (by show ((⟨#[]⟩ : ByteArray) ++ s1).size ≤ 60; simp only [ByteArray.size_append, z0]; omega) (by omega)
    · obtain ⟨s2, e2, q2⟩ := showA_f (a := r.f1) (by omega) (k := k + 1 + 1) (by omega)
      rw [if_neg c, e2, Option.bind_some]
      rw [if_pos (show ((⟨#[]⟩ : ByteArray) ++ s1).size + 5 ≤ 9223372036854775807 by simp only [ByteArray.size_append, z0]; omega)]
      rw [if_pos (show (((⟨#[]⟩ : ByteArray) ++ s1) ++ (⟨#[32, 118, 105, 97, 32]⟩ : ByteArray)).size + s2.size ≤ 9223372036854775807 by simp only [ByteArray.size_append, z0, z5]; omega)]
      exact showR_j h _ (by show ((((⟨#[]⟩ : ByteArray) ++ s1) ++ (⟨#[32, 118, 105, 97, 32]⟩ : ByteArray)) ++ s2).size ≤ 60; simp only [ByteArray.size_append, z0, z5]; omega) (by omega)
  · rw [if_neg h, if_neg h]
    exact ⟨_, rfl⟩
-- the best one
theorem bs_step (d : Int) (l : List S76) : ∀ b : Option S76, (∀ c, l.foldl (stI d) b = some c → (b = some c ∨ (c ∈ l ∧ valid d c = true))) ∧ (∀ c, l.foldl (stI d) b = some c → ∀ x, (b = some x ∨ (x ∈ l ∧ valid d x = true)) → ¬ (x.f0.f1 > c.f0.f1) ∧ ¬ (x.f0.f1 = c.f0.f1 ∧ x.f3 < c.f3)) ∧ (l.foldl (stI d) b = none → b = none ∧ ∀ x ∈ l, ¬ valid d x = true) := by
  induction l with
  | nil =>
    intro b
    refine ⟨fun c h => Or.inl h, fun c h x hx => ?_, fun h => ⟨h, fun x hx => absurd hx (by simp)⟩⟩
    rcases hx with hx | hx
    · rw [List.foldl_nil, hx] at h
      injection h with h
      subst h
      omega
    · exact absurd hx.1 (by simp)
  | cons r l ih =>
    intro b
    obtain ⟨i1, i2, i3⟩ := ih (stI d b r)
    rw [List.foldl_cons]
    by_cases hv : valid d r = true
    · cases b with
      | none =>
        have e : stI d none r = some r := by unfold stI; rw [if_pos hv]
        rw [e] at i1 i2 i3
        rw [e]
        refine ⟨fun c h => ?_, fun c h x hx => ?_, fun h => absurd (i3 h).1 (by simp)⟩
        · rcases i1 c h with h1 | h1
          · injection h1 with h1
            subst h1
            exact Or.inr ⟨List.mem_cons_self .., hv⟩
          · exact Or.inr ⟨List.mem_cons_of_mem _ h1.1, h1.2⟩
        · rcases hx with hx | ⟨hx, hx2⟩
          · exact absurd hx (by simp)
          · rcases List.mem_cons.1 hx with rfl | hx
            · exact i2 c h _ (Or.inl rfl)
            · exact i2 c h _ (Or.inr ⟨hx, hx2⟩)
      | some q =>
        have hq : (stI d (some q) r = some r ∧ ¬ (q.f0.f1 > r.f0.f1) ∧ ¬ (q.f0.f1 = r.f0.f1 ∧ q.f3 < r.f3)) ∨ (stI d (some q) r = some q ∧ ¬ (r.f0.f1 > q.f0.f1) ∧ ¬ (r.f0.f1 = q.f0.f1 ∧ r.f3 < q.f3)) := by
          have e : stI d (some q) r = (if r.f0.f1 > q.f0.f1 then some r else if r.f0.f1 = q.f0.f1 then (if r.f3 < q.f3 then some r else some q) else some q) := by
            unfold stI
            rw [if_pos hv]
          by_cases c1 : r.f0.f1 > q.f0.f1
          · exact Or.inl ⟨by rw [e, if_pos c1], by omega, by omega⟩
          · by_cases c2 : r.f0.f1 = q.f0.f1
            · by_cases c3 : r.f3 < q.f3
              · exact Or.inl ⟨by rw [e, if_neg c1, if_pos c2, if_pos c3], by omega, by omega⟩
              · exact Or.inr ⟨by rw [e, if_neg c1, if_pos c2, if_neg c3], by omega, by omega⟩
            · exact Or.inr ⟨by rw [e, if_neg c1, if_neg c2], by omega, by omega⟩
        rcases hq with ⟨e, o1, o2⟩ | ⟨e, o1, o2⟩
        · rw [e] at i1 i2 i3
          rw [e]
          refine ⟨fun c h => ?_, fun c h x hx => ?_, fun h => absurd (i3 h).1 (by simp)⟩
          · rcases i1 c h with h1 | h1
            · injection h1 with h1
              subst h1
              exact Or.inr ⟨List.mem_cons_self .., hv⟩
            · exact Or.inr ⟨List.mem_cons_of_mem _ h1.1, h1.2⟩
          · have hr := i2 c h _ (Or.inl rfl)
            rcases hx with hx | ⟨hx, hx2⟩
            · injection hx with hx
              subst hx
              omega
            · rcases List.mem_cons.1 hx with rfl | hx
              · exact hr
              · exact i2 c h _ (Or.inr ⟨hx, hx2⟩)
        · rw [e] at i1 i2 i3
          rw [e]
          refine ⟨fun c h => ?_, fun c h x hx => ?_, fun h => absurd (i3 h).1 (by simp)⟩
          · rcases i1 c h with h1 | h1
            · exact Or.inl h1
            · exact Or.inr ⟨List.mem_cons_of_mem _ h1.1, h1.2⟩
          · have hr := i2 c h _ (Or.inl rfl)
            rcases hx with hx | ⟨hx, hx2⟩
            · injection hx with hx
              subst hx
              exact hr
            · rcases List.mem_cons.1 hx with rfl | hx
              · omega
              · exact i2 c h _ (Or.inr ⟨hx, hx2⟩)
    · have e : stI d b r = b := by unfold stI; rw [if_neg hv]
      rw [e] at i1 i2 i3
      rw [e]
      refine ⟨fun c h => ?_, fun c h x hx => ?_, fun h => ⟨(i3 h).1, fun x hx => ?_⟩⟩
      · rcases i1 c h with h1 | h1
        · exact Or.inl h1
        · exact Or.inr ⟨List.mem_cons_of_mem _ h1.1, h1.2⟩
      · rcases hx with hx | ⟨hx, hx2⟩
        · exact i2 c h _ (Or.inl hx)
        · rcases List.mem_cons.1 hx with rfl | hx
          · exact absurd hx2 hv
          · exact i2 c h _ (Or.inr ⟨hx, hx2⟩)
      · rcases List.mem_cons.1 hx with rfl | hx
        · exact hv
        · exact (i3 h).2 x hx
theorem bs_some {d : Int} {l : List S76} {c : S76} (h : best d l = some c) : (c ∈ l ∧ valid d c = true) ∧ ∀ x ∈ l, valid d x = true → ¬ (x.f0.f1 > c.f0.f1) ∧ ¬ (x.f0.f1 = c.f0.f1 ∧ x.f3 < c.f3) := by
  obtain ⟨i1, i2, _⟩ := bs_step d l none
  exact ⟨(i1 c h).elim (fun e => absurd e (by simp)) id, fun x hx hv => i2 c h x (Or.inr ⟨hx, hv⟩)⟩
theorem bs_none {d : Int} {l : List S76} (h : best d l = none) : ∀ x ∈ l, ¬ valid d x = true := ((bs_step d l none).2.2 h).2
theorem bs_more {d : Int} {l : List S76} {c m : S76} (h : best d l = some c) (h1 : m.f0.f1 = c.f0.f1) (h2 : m.f3 = c.f3) : best d (l ++ [m]) = some c := by
  unfold best at h ⊢
  rw [List.foldl_append, h, List.foldl_cons, List.foldl_nil]
  unfold stI
  split
  · show (if m.f0.f1 > c.f0.f1 then some m else if m.f0.f1 = c.f0.f1 then (if m.f3 < c.f3 then some m else some c) else some c) = some c
    rw [if_neg (by omega), if_pos h1, if_neg (by omega)]
  · rfl
-- the draws
theorem ddraw_f {l : List Int} (hl : l.length ≤ 2097152) {p : Int} (st : Int) (hp : 0 ≤ p) {k : Nat} (hk : 40 ≤ k) : ∃ a b c d e p' st', spec_l08Draw.f k l p st = some (a, b, c, d, e, p', st') ∧ 0 ≤ p' := by
  unfold spec_l08Draw.f
  obtain ⟨a, b, p1, s1, e, hp1⟩ := pre_f hl st hp hk
  rw [e]
  simp only [Option.bind_some]
  obtain ⟨x, p2, s2, e, _, _, hp2⟩ := l01n_f hl s1 (n := 4) hp1 (by omega) (by omega)
  rw [e]
  simp only [Option.bind_some]
  obtain ⟨y, p3, s3, e, _, _, hp3⟩ := l01n_f hl s2 (n := 3) hp2 (by omega) (by omega)
  rw [e]
  simp only [Option.bind_some]
  obtain ⟨z, p4, s4, e, hp4⟩ := bool_f hl s3 hp3
  rw [e]
  simp only [Option.bind_some]
  split
  · obtain ⟨v, p5, s5, e, _, hp5⟩ := host_f hl s4 hp4
    rw [e]
    exact ⟨_, _, _, _, _, _, _, rfl, hp5⟩
  · exact ⟨_, _, _, _, _, _, _, rfl, hp4⟩
theorem dlist_l {l : List Int} (hl : l.length ≤ 2097152) (n : Int) (hn : n ≤ 100) (m : Nat) : ∀ (k : Nat) (i : Nat) (x : List S76) (p st : Int), n - (i : Int) ≤ (m : Int) → i ≤ 100 → x.length = i → 0 ≤ p → m + 41 ≤ k → ∃ L p' st', spec_l08List.l0 k n x (i : Int) l p st = some (L, p', st') ∧ (L.length : Int) ≤ 100 ∧ 0 ≤ p' := by
  induction m with
  | zero =>
    intro k i x p st hi hi2 hx hp hk
    obtain ⟨k, rfl⟩ : ∃ m, k = m + 1 := ⟨k - 1, by omega⟩
    rw [spec_l08List.l0, if_neg (by omega)]
    exact ⟨_, _, _, rfl, by omega, hp⟩
  | succ m ih =>
    intro k i x p st hi hi2 hx hp hk
    obtain ⟨k, rfl⟩ : ∃ m, k = m + 1 := ⟨k - 1, by omega⟩
    rw [spec_l08List.l0]
    by_cases c : (i : Int) < n
    · obtain ⟨a, b, v, q, e, p1, s1, e1, hp1⟩ := ddraw_f hl st hp (k := k) (by omega)
      rw [if_pos c, e1, Option.bind_some, if_pos (by omega)]
      rw [show wrap64 ((i : Int) + 1) = ((i + 1 : Nat) : Int) from by rw [wr64 (by omega)]; omega]
      exact ih k (i + 1) _ _ _ (by omega) (by omega) (by simp [hx]) hp1 (by omega)
    · rw [if_neg c]
      exact ⟨_, _, _, rfl, by omega, hp⟩
theorem dbend_f {l : List Int} (hl : l.length ≤ 2097152) {p : Int} (st : Int) (hp : 0 ≤ p) {k : Nat} (hk : 40 ≤ k) (a b c d e : Int) : ∃ a' b' c' d' e' p' st', spec_l08Bend.f k l p st a b c d e = some (a', b', c', d', e', p', st') ∧ 0 ≤ p' := by
  unfold spec_l08Bend.f
  obtain ⟨x, p1, s1, e1, _, _, hp1⟩ := l01n_f hl st (n := 6) hp (by omega) (by omega)
  rw [e1]
  simp only [Option.bind_some]
  split
  · obtain ⟨u, v, p2, s2, e2, hp2⟩ := ill_f hl s1 hp1 hk
    rw [e2]
    exact ⟨_, _, _, _, _, _, _, rfl, hp2⟩
  · split
    · obtain ⟨y, p2, s2, e2, h2, h3, hp2⟩ := l01n_f hl s1 (n := 3) hp1 (by omega) (by omega)
      rw [e2]
      simp only [Option.bind_some]
      rw [if_pos h2, if_pos (by simp; omega)]
      exact ⟨_, _, _, _, _, _, _, rfl, hp2⟩
    · split
      · exact ⟨_, _, _, _, _, _, _, rfl, hp1⟩
      · split
        · obtain ⟨y, p2, s2, e2, h2, h3, hp2⟩ := l01n_f hl s1 (n := 2) hp1 (by omega) (by omega)
          rw [e2]
          exact ⟨_, _, _, _, _, _, _, rfl, hp2⟩
        · exact ⟨_, _, _, _, _, _, _, rfl, hp1⟩
theorem dj1_f {l : List Int} (hl : l.length ≤ 2097152) {p : Int} (st : Int) (hp : 0 ≤ p) (L : List S76) (k : Nat) : ∃ d, spec_DrawFindRoute.j1 (k + 1) L l p st = some (L, d) := by
  rw [spec_DrawFindRoute.j1]
  obtain ⟨a, p1, s1, e, hp1⟩ := daddr2_f hl st hp
  rw [e, Option.bind_some]
  obtain ⟨z, p2, s2, e, hp2⟩ := bool_f hl s1 hp1
  rw [e, Option.bind_some]
  split
  · obtain ⟨v, p3, s3, e, _, hp3⟩ := host_f hl s2 hp2
    rw [e]
    exact ⟨_, rfl⟩
  · exact ⟨_, rfl⟩
theorem dj0_f {l : List Int} (hl : l.length ≤ 2097152) {p : Int} (st : Int) (hp : 0 ≤ p) (L : List S76) (hL : L.length ≤ 100) (b : Bool) (hb : b = true → 0 < L.length) {k : Nat} (hk : 41 ≤ k) : ∃ L' d, spec_DrawFindRoute.j0 (k + 1) L b l p st = some (L', d) ∧ L'.length ≤ 100 := by
  obtain ⟨j, rfl⟩ : ∃ m, k = m + 1 := ⟨k - 1, by omega⟩
  rw [spec_DrawFindRoute.j0]
  by_cases c : b = true
  · have := hb c
    obtain ⟨a', b', c', d', e', p1, s1, e1, hp1⟩ := dbend_f hl st hp (k := j + 1) (by omega) ((rd_T76 L 0).f0.f0) ((rd_T76 L 0).f0.f1) ((rd_T76 L 0).f1) ((rd_T76 L 0).f2) ((rd_T76 L 0).f3)
    rw [if_pos c, if_pos (by omega), e1, Option.bind_some]
    obtain ⟨d, e2⟩ := dj1_f hl s1 hp1 (L.set (0 : Int).toNat (⟨(⟨a', b'⟩ : S74), c', d', e'⟩ : S76)) j
    exact ⟨_, d, e2, by simp; exact hL⟩
  · rw [if_neg c]
    obtain ⟨d, e2⟩ := dj1_f hl st hp L j
    exact ⟨_, d, e2, hL⟩
theorem dfind_f {l : List Int} (hl : l.length ≤ 1048576) {k : Nat} (hk : l.length + 200 ≤ k) : ∃ L d, spec_DrawFindRoute.f k l = some (L, d) ∧ L.length ≤ 100 := by
  obtain ⟨k, rfl⟩ : ∃ m, k = m + 1 := ⟨k - 1, by omega⟩
  have hl2 : l.length ≤ 2097152 := by omega
  unfold spec_DrawFindRoute.f
  obtain ⟨st, e⟩ := l01b_f hl2 (k := k + 1) (by omega)
  rw [e]
  simp only [Option.bind_some]
  obtain ⟨n, p1, s1, e, h0, h1, hp1⟩ := l01n_f hl2 st (p := 0) (n := 12) (by omega) (by omega) (by omega)
  rw [e]
  simp only [Option.bind_some]
  obtain ⟨L, p2, s2, e, hL, hp2⟩ := dlist_l hl2 n (by omega) 100 (k + 1) 0 [] p1 s1 (by omega) (by omega) rfl hp1 (by omega)
  have e' : spec_l08List.f (k + 1) l p1 s1 n = some (L, p2, s2) := e
  rw [e']
  simp only [Option.bind_some]
  split
  · rename_i c
    obtain ⟨y, p3, s3, e, _, _, hp3⟩ := l01n_f hl2 s2 (n := 4) hp2 (by omega) (by omega)
    rw [e]
    simp only [Option.bind_some]
    exact dj0_f hl2 s3 hp3 L (by omega) _ (fun _ => by omega) (by omega)
  · exact dj0_f hl2 s2 hp2 L (by omega) false (fun h => by simp at h) (by omega)
-- the walk over the list
def same (x c : S76) : Bool := (x.f0.f0 == c.f0.f0 && (x.f0.f1 == c.f0.f1)) && (x.f1 == c.f1 && (x.f2 == c.f2 && (x.f3 == c.f3)))
theorem same_self (c : S76) : same c c = true := by unfold same; simp
theorem lj2_f {L : List S76} (hL : L.length ≤ 100) (d : Int) {k : Nat} (hk : 200 ≤ k) : laws_FnLongest.j2 (k + 1) L d (best d L).isSome false ((best d L).getD z76).f0.f0 ((best d L).getD z76).f0.f1 ((best d L).getD z76).f1 ((best d L).getD z76).f2 ((best d L).getD z76).f3 = some true := by
  rw [laws_FnLongest.j2, if_neg (by simp)]
  cases h : best d L with
  | none => rfl
  | some c =>
    rw [if_pos (show (some c).isSome = true from rfl), Option.bind_some, if_pos (by simp; omega), Option.bind_some, Option.bind_some, if_pos (by simp; omega)]
    rw [List.nil_append, implFind_f _ _ (by simp; omega) (by simp; omega), Option.bind_some, bs_more (c := c) (m := ⟨⟨((some c).getD z76).f0.f0, ((some c).getD z76).f0.f1⟩, 167772177, ((some c).getD z76).f2, ((some c).getD z76).f3⟩) h rfl rfl]
    simp [ot]
theorem ll_end {L : List S76} (hL : L.length ≤ 100) (d : Int) {k : Nat} (hk : 200 ≤ k) (any : Bool) (in_ : Bool) (h1 : any = (best d L).isSome) (h2 : (best d L).isSome = true → in_ = true) : laws_FnLongest.l0 (k + 1 + 1) L d (best d L).isSome any in_ (L.length : Int) ((best d L).getD z76).f0.f0 ((best d L).getD z76).f0.f1 ((best d L).getD z76).f1 ((best d L).getD z76).f2 ((best d L).getD z76).f3 = some true := by
  rw [laws_FnLongest.l0, if_neg (by omega), if_neg (by rw [h1]; simp)]
  have J := lj2_f hL d hk
  by_cases c : (best d L).isSome = true
  · rw [if_pos c, h2 c]
    exact J
  · rw [if_neg c]
    exact J
theorem ll_f {L : List S76} (hL : L.length ≤ 100) (d : Int) (m : Nat) : ∀ (k i : Nat) (any in_ : Bool), i + m = L.length → 2 * m + 300 ≤ k → (any = true ↔ ∃ x ∈ L.take i, valid d x = true) → (∀ c, best d L = some c → c ∈ L.take i → in_ = true) → laws_FnLongest.l0 k L d (best d L).isSome any in_ (i : Int) ((best d L).getD z76).f0.f0 ((best d L).getD z76).f0.f1 ((best d L).getD z76).f1 ((best d L).getD z76).f2 ((best d L).getD z76).f3 = some true := by
  induction m with
  | zero =>
    intro k i any in_ hi hk ha hin
    obtain ⟨k, rfl⟩ : ∃ m, k = m + 1 + 1 := ⟨k - 2, by omega⟩
    obtain rfl : i = L.length := by omega
    rw [List.take_length] at ha hin
    refine ll_end hL d (by omega) any in_ ?_ ?_
    · cases h : best d L with
      | none =>
        have := bs_none h
        cases any with
        | false => rfl
        | true => obtain ⟨x, hx, hv⟩ := ha.1 rfl; exact absurd hv (this x hx)
      | some c =>
        have := (bs_some h).1
        exact ha.2 ⟨c, this.1, this.2⟩
    · intro hs
      obtain ⟨c, h⟩ := Option.isSome_iff_exists.1 hs
      exact hin c h (bs_some h).1.1
  | succ m ih =>
    intro k i any in_ hi hk ha hin
    obtain ⟨k, rfl⟩ : ∃ m, k = m + 1 + 1 := ⟨k - 2, by omega⟩
    have hlt : i < L.length := by omega
    rw [laws_FnLongest.l0, if_pos (by omega), if_pos (by omega), wr_succ hlt (by omega), if_pos (by omega), if_pos (by omega), Int.toNat_natCast, Int.toNat_natCast, rdR hlt]
    have hcut : (L.take (i + 1)).drop i = [L[i]] := by
      rw [List.drop_take, show i + 1 - i = 1 by omega, List.drop_eq_getElem_cons hlt]
      rfl
    obtain ⟨s, hs⟩ := showR1 L[i] (k := k + 1) (by omega)
    rw [hcut, hs, Option.bind_some, specHas_f _ _ _ (by omega)]
    have htake : L.take (i + 1) = L.take i ++ [L[i]] := List.take_succ_eq_append_getElem hlt
    have next : ∀ any' in', (any' = true ↔ ∃ x ∈ L.take (i + 1), valid d x = true) → (∀ c, best d L = some c → c ∈ L.take (i + 1) → in' = true) → laws_FnLongest.l0 k L d (best d L).isSome any' in' ((i + 1 : Nat) : Int) ((best d L).getD z76).f0.f0 ((best d L).getD z76).f0.f1 ((best d L).getD z76).f1 ((best d L).getD z76).f2 ((best d L).getD z76).f3 = some true := fun any' in' h1 h2 => ih k (i + 1) any' in' (by omega) (by omega) h1 h2
    by_cases hv : valid d L[i] = true
    · have hv' := hv
      unfold valid at hv'
      rw [Bool.and_eq_true] at hv'
      rw [if_pos hv'.1, hv'.2]
      show (if (0 : Int) = 0 then _ else _) = _
      rw [if_pos rfl, Option.bind_some, laws_FnLongest.j1, if_neg (by simp), wr_succ hlt (by omega)]
      have anyT : ∀ in', (∀ c, best d L = some c → c ∈ L.take (i + 1) → in' = true) → laws_FnLongest.l0 k L d (best d L).isSome true in' ((i + 1 : Nat) : Int) ((best d L).getD z76).f0.f0 ((best d L).getD z76).f0.f1 ((best d L).getD z76).f1 ((best d L).getD z76).f2 ((best d L).getD z76).f3 = some true := fun in' h2 => next true in' ⟨fun _ => ⟨L[i], by rw [htake]; exact List.mem_append_right _ (List.mem_singleton.2 rfl), hv⟩, fun _ => rfl⟩ h2
      cases hb : best d L with
      | none => exact absurd hv (bs_none hb _ (List.getElem_mem hlt))
      | some c =>
        rw [hb] at anyT
        simp only [Option.isSome_some, Option.getD_some, if_true] at anyT ⊢
        obtain ⟨o1, o2⟩ := (bs_some hb).2 L[i] (List.getElem_mem hlt) hv
        have fin : ∀ in', (∀ c', some c = some c' → c' ∈ L.take (i + 1) → in' = true) → (if L[i].f0.f1 > c.f0.f1 then (some false) else (if L[i].f0.f1 = c.f0.f1 then (if L[i].f3 < c.f3 then (some false) else (laws_FnLongest.l0 k L d true true in' ((i + 1 : Nat) : Int) c.f0.f0 c.f0.f1 c.f1 c.f2 c.f3)) else (laws_FnLongest.l0 k L d true true in' ((i + 1 : Nat) : Int) c.f0.f0 c.f0.f1 c.f1 c.f2 c.f3))) = some true := by
          intro in' h2
          rw [if_neg o1]
          by_cases e : L[i].f0.f1 = c.f0.f1
          · rw [if_pos e, if_neg (fun h => o2 ⟨e, h⟩)]
            exact anyT in' h2
          · rw [if_neg e]
            exact anyT in' h2
        by_cases es : same L[i] c = true
        · have es' := es
          unfold same at es'
          rw [if_pos es']
          exact fin true (fun _ _ _ => rfl)
        · have es' := es
          unfold same at es'
          rw [if_neg es']
          refine fin in_ (fun c' e hc => ?_)
          injection e with e
          subst e
          rw [htake] at hc
          rcases List.mem_append.1 hc with hc | hc
          · exact hin c hb hc
          · rw [List.mem_singleton.1 hc] at es
            exact absurd (same_self _) es
    · have go := next any in_ (by
        rw [ha, htake]
        constructor
        · rintro ⟨x, hx, h⟩
          exact ⟨x, List.mem_append_left _ hx, h⟩
        · rintro ⟨x, hx, h⟩
          rcases List.mem_append.1 hx with hx | hx
          · exact ⟨x, hx, h⟩
          · rw [List.mem_singleton.1 hx] at h
            exact absurd h hv) (fun c h hc => by
        rw [htake] at hc
        rcases List.mem_append.1 hc with hc | hc
        · exact hin c h hc
        · rw [← List.mem_singleton.1 hc] at hv
          exact absurd (bs_some h).1.2 hv)
      have skip : laws_FnLongest.j1 (k + 1) L d (best d L).isSome any in_ (i : Int) true ((best d L).getD z76).f0.f0 ((best d L).getD z76).f0.f1 ((best d L).getD z76).f1 ((best d L).getD z76).f2 ((best d L).getD z76).f3 L[i].f0.f0 L[i].f0.f1 L[i].f1 L[i].f2 L[i].f3 = some true := by
        rw [laws_FnLongest.j1, if_pos rfl, wr_succ hlt (by omega)]
        exact go
      by_cases c1 : okR L[i] = true
      · rw [if_pos c1]
        show (if (0 : Int) = 0 then _ else _) = _
        rw [if_pos rfl, Option.bind_some]
        have c2 : hasP L[i].f0.f0 L[i].f0.f1 d = false := by
          unfold valid at hv
          rw [c1] at hv
          simpa using hv
        rw [c2]
        exact skip
      · rw [if_neg c1]
        show (if (1 : Int) = 0 then _ else _) = _
        rw [if_neg (by decide)]
        exact skip
theorem FnLongest : laws_FnLongest.Pure := by
  intro l _ _ _
  by_cases h : (l.length : Int) > 1048576
  · refine ⟨1, ?_⟩
    unfold laws_FnLongest.f
    rw [if_pos h]
  · obtain ⟨k, hk⟩ : ∃ k, k = l.length + 600 := ⟨_, rfl⟩
    refine ⟨k, ?_⟩
    unfold laws_FnLongest.f
    rw [if_neg h]
    obtain ⟨L, d, e, hL⟩ := dfind_f (l := l) (by omega) (k := k) (by omega)
    rw [e]
    simp only [Option.bind_some]
    rw [if_pos (by simp; omega), List.nil_append, implFind_f _ _ (by omega) (by omega), Option.bind_some]
    exact ll_f hL d L.length k 0 false false (by omega) (by omega) (by simp) (by simp)

end Go.Proofs.Ytkfbcmbemihbnaa.Pure
