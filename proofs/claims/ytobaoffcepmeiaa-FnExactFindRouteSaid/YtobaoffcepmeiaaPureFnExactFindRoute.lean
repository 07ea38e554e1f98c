/- The program's FindRoute returns what the reference's returns, for all arguments; without conditions. -/
import Derived.Test.YtobaoffcepmeiaaPFnExactFindRoutex5
set_option linter.unusedVariables false
set_option linter.unusedSimpArgs false
namespace Go.Proofs.Ytobaoffcepmeiaa.Pure
open Go.RowKit Go.Proofs.Ytobaoffcepmeiaa.PFnExactFindRoute Go.Proofs.YtobaoffcepmeiaaW.PrintWords Go.Proofs.YtobaoffcepmeiaaW.PrintLast

/-! ### base -/
theorem wf64 {a : Int} (h : (Lit.int .i64 a).wf = true) : -9223372036854775808 ≤ a ∧ a ≤ 9223372036854775807 := by
  have h1 : IntKind.i64.min = -9223372036854775808 := by decide
  have h2 : IntKind.i64.max = 9223372036854775807 := by decide
  simp only [Lit.wf, Bool.and_eq_true, decide_eq_true_eq] at h
  omega
theorem tm_pos {a : Int} (n : Int) (h : 0 ≤ a) : Int.tmod a n = a % n := Int.tmod_eq_emod_of_nonneg h
theorem tm_neg {a : Int} (n : Int) (h : a ≤ 0) : Int.tmod a n = -((-a) % n) := by
  have := Int.neg_tmod (-a) n
  rw [Int.neg_neg] at this
  rw [this, Int.tmod_eq_emod_of_nonneg (by omega)]
theorem td_pos {a : Int} (n : Int) (h : 0 ≤ a) : Int.tdiv a n = a / n := Int.tdiv_eq_ediv_of_nonneg h
theorem wr64 {a : Int} (h : -9223372036854775808 ≤ a ∧ a ≤ 9223372036854775807) : wrap64 a = a := by
  unfold wrap64
  omega
theorem dec_eq {p : Prop} [Decidable p] {b : Bool} (h : b = true ↔ p) : some b = some (decide p) := by
  rw [Option.some.injEq, Bool.eq_iff_iff, decide_eq_true_eq]
  exact h
theorem ite_dec (p q : Prop) [Decidable p] [Decidable q] : (if p then some (decide q) else some false) = some (decide (p ∧ q)) := by
  by_cases h : p <;> simp [h]
theorem beq_dec (a b : Int) : (a == b) = decide (a = b) := by
  rw [Bool.eq_iff_iff]
  simp

/-! ### lists -/
theorem rd_at {xs : List Int} {i : Nat} (h : i < xs.length) : rd xs (i : Int) = xs[i] := by
  unfold rd
  rw [Int.toNat_natCast, List.getD_eq_getElem?_getD, List.getElem?_eq_getElem h]
  rfl
theorem wr_succ {i n : Nat} (h : i < n) (hn : n ≤ 281474976710656) : wrap64 ((i : Int) + 1) = ((i + 1 : Nat) : Int) := by
  rw [wr64 (by omega)]
  omega
theorem maxLen_le {n : Nat} (h : n ≤ 1048576) : n ≤ 281474976710656 := by omega

/-! ### addr0 -/
theorem in_f (a l h : Int) : spec_l01In.f a l h = some (decide (l ≤ a ∧ a ≤ h)) := by
  unfold spec_l01In.f
  by_cases h1 : a ≥ l
  · rw [if_pos h1]; congr 1; rw [decide_eq_decide]; omega
  · rw [if_neg h1]; congr 1; rw [eq_comm, decide_eq_false_iff_not]; omega

/-! ### addr -/
theorem addrOK_f (a : Int) : spec_l02AddrOK.f a = some (decide (0 ≤ a ∧ a ≤ 4294967295)) := by
  unfold spec_l02AddrOK.f
  rw [in_f]
  rfl
theorem isAddr_f (a : Int) : impl_isAddr.f a = some (decide (0 ≤ a ∧ a ≤ 4294967295)) := by
  unfold impl_isAddr.f
  by_cases h1 : a ≥ 0
  · rw [if_pos h1]; congr 1; rw [decide_eq_decide]; omega
  · rw [if_neg h1]; congr 1; rw [eq_comm, decide_eq_false_iff_not]; omega

/-! ### bits -/
theorem wraps_i64 (n : Int) (h₀ : 0 ≤ n) (h₁ : n < 2 ^ 63) : IntKind.i64.wrap n = n := by rw [IntKind.wrap_i64]; omega
/-- The low bits of any whole number. -/
theorem and_low (i : Nat) (hi : i ≤ 62) (x : Int) : Go.bits .and .i64 x (2 ^ i - 1) = x % 2 ^ i := by
  have hpos : 0 < 2 ^ i := Nat.two_pow_pos i
  have h62 : 2 ^ i ≤ 2 ^ 62 := Nat.pow_le_pow_right (by decide) hi
  have hc : ((2 : Int) ^ i - 1) = ((2 ^ i - 1 : Nat) : Int) := by
    rw [Int.natCast_sub hpos]; simp
  have hx0 : 0 ≤ x % 18446744073709551616 := Int.emod_nonneg _ (by decide)
  have hx : (BitVec.ofInt 64 x).toNat = (x % 18446744073709551616).toNat := by rw [BitVec.toNat_ofInt]; rfl
  have hd : ((2 : Int) ^ i) ∣ 18446744073709551616 := by
    rw [show (18446744073709551616 : Int) = 2 ^ 64 from rfl]
    exact ⟨2 ^ (64 - i), by rw [← Int.pow_add, show i + (64 - i) = 64 from by omega]⟩
  have h2 : ((x % 18446744073709551616).toNat % 2 ^ i : Nat) = (x % 2 ^ i).toNat := by
    apply Int.ofNat.inj
    have e1 : (((x % 18446744073709551616).toNat % 2 ^ i : Nat) : Int) = x % 2 ^ i := by
      rw [Int.natCast_emod, Int.toNat_of_nonneg hx0, Int.natCast_pow]
      exact Int.emod_emod_of_dvd _ hd
    have e2 : 0 ≤ x % 2 ^ i := Int.emod_nonneg _ (by have : (0 : Int) < 2 ^ i := Int.pow_pos (by decide); omega)
    exact e1.trans (Int.toNat_of_nonneg e2).symm
  have e2 : 0 ≤ x % 2 ^ i := Int.emod_nonneg _ (by have : (0 : Int) < 2 ^ i := Int.pow_pos (by decide); omega)
  have e3 : x % 2 ^ i < 2 ^ i := Int.emod_lt_of_pos _ (Int.pow_pos (by decide))
  have e4 : (2 : Int) ^ i ≤ 2 ^ 62 := by exact_mod_cast h62
  have key : Go.bits .and .i64 x (2 ^ i - 1) = IntKind.i64.wrap (((BitVec.ofInt 64 x).toNat &&& (BitVec.ofInt 64 ((2 ^ i - 1 : Nat) : Int)).toNat : Nat) : Int) := by
    rw [hc]
    show IntKind.i64.wrap ((BitVec.ofInt 64 x &&& BitVec.ofInt 64 ((2 ^ i - 1 : Nat) : Int)).toNat : Int) = _
    rw [BitVec.toNat_and]
  rw [key, hx]
  have hm : (BitVec.ofInt 64 ((2 ^ i - 1 : Nat) : Int)).toNat = 2 ^ i - 1 := by
    rw [BitVec.ofInt_natCast, BitVec.toNat_ofNat]
    exact Nat.mod_eq_of_lt (by omega)
  rw [hm, Nat.and_two_pow_sub_one_eq_mod, h2, Int.toNat_of_nonneg e2]
  exact wraps_i64 _ e2 (by omega)
theorem and_65535 (x : Int) : Go.bits .and .i64 x 65535 = x % 65536 := and_low 16 (by decide) x
theorem and_255 (x : Int) : Go.bits .and .i64 x 255 = x % 256 := and_low 8 (by decide) x
theorem nat_and_high (a n : Nat) (ha : a < 2 ^ 32) (hn : n ≤ 32) : a &&& ((2 ^ (32 - n) - 1) * 2 ^ n) = a / 2 ^ n * 2 ^ n := by
  apply Nat.eq_of_testBit_eq
  intro i
  rw [Nat.testBit_and, Nat.testBit_mul_two_pow, Nat.testBit_mul_two_pow, Nat.testBit_div_two_pow, Nat.testBit_two_pow_sub_one]
  by_cases h : n ≤ i
  · simp only [h, decide_true, Bool.true_and]
    rw [show i - n + n = i from by omega]
    by_cases h3 : i - n < 32 - n
    · simp [h3]
    · have : a.testBit i = false := Nat.testBit_lt_two_pow (Nat.lt_of_lt_of_le ha (Nat.pow_le_pow_right (by decide) (by omega)))
      simp [this]
  · simp [h]
theorem and_high (a : Int) (n : Nat) (h0 : 0 ≤ a) (h1 : a ≤ 4294967295) (hn : n ≤ 32) : Go.bits .and .i64 a ((2 ^ (32 - n) - 1) * 2 ^ n) = a / 2 ^ n * 2 ^ n := by
  obtain ⟨b, rfl⟩ := Int.eq_ofNat_of_zero_le h0
  have hc : (((2 : Int) ^ (32 - n) - 1) * 2 ^ n) = (((2 ^ (32 - n) - 1) * 2 ^ n : Nat) : Int) := by
    rw [Int.natCast_mul, Int.natCast_sub (Nat.two_pow_pos _)]; simp
  have hl : (2 ^ (32 - n) - 1) * 2 ^ n ≤ 4294967295 := by
    rw [Nat.sub_mul, ← Nat.pow_add, show 32 - n + n = 32 from by omega]
    have := Nat.two_pow_pos n
    omega
  rw [hc, (bits_nat .i64 63 (by decide) wraps_i64 b _ (by omega) (by omega)).1, nat_and_high b n (by omega) hn]
  simp

/-! ### prefix -/
theorem bits33 {b : Int} (h : 0 ≤ b ∧ b ≤ 32) : b = 0 ∨ b = 1 ∨ b = 2 ∨ b = 3 ∨ b = 4 ∨ b = 5 ∨ b = 6 ∨ b = 7 ∨ b = 8 ∨ b = 9 ∨ b = 10 ∨ b = 11 ∨ b = 12 ∨ b = 13 ∨ b = 14 ∨ b = 15 ∨ b = 16 ∨ b = 17 ∨ b = 18 ∨ b = 19 ∨ b = 20 ∨ b = 21 ∨ b = 22 ∨ b = 23 ∨ b = 24 ∨ b = 25 ∨ b = 26 ∨ b = 27 ∨ b = 28 ∨ b = 29 ∨ b = 30 ∨ b = 31 ∨ b = 32 := by omega
/-- How many addresses a prefix of so many bits has. -/
def sz (b : Int) : Int := 2 ^ (32 - b).toNat
theorem sz_pos (b : Int) : 0 < sz b := Int.pow_pos (by decide)
theorem sz_le {b : Int} (h : 0 ≤ b ∧ b ≤ 32) : sz b ≤ 4294967296 := by
  rcases bits33 h with rfl | rfl | rfl | rfl | rfl | rfl | rfl | rfl | rfl | rfl | rfl | rfl | rfl | rfl | rfl | rfl | rfl | rfl | rfl | rfl | rfl | rfl | rfl | rfl | rfl | rfl | rfl | rfl | rfl | rfl | rfl | rfl | rfl <;> decide
theorem size_f {b : Int} (h : 0 ≤ b ∧ b ≤ 32) {k : Nat} (hk : 40 ≤ k) : spec_l02Size.f k b = some (sz b) := by
  have h0 : spec_l02Size.f 40 b = some (sz b) := by
    rcases bits33 h with rfl | rfl | rfl | rfl | rfl | rfl | rfl | rfl | rfl | rfl | rfl | rfl | rfl | rfl | rfl | rfl | rfl | rfl | rfl | rfl | rfl | rfl | rfl | rfl | rfl | rfl | rfl | rfl | rfl | rfl | rfl | rfl | rfl <;> decide +kernel
  exact at_rounds (fun k => spec_l02Size.mono b k) hk h0
theorem mask_f {b : Int} (h : 0 ≤ b ∧ b ≤ 32) : impl_mask.f b = some ((2 ^ (32 - (32 - b).toNat) - 1) * 2 ^ (32 - b).toNat) := by
  rcases bits33 h with rfl | rfl | rfl | rfl | rfl | rfl | rfl | rfl | rfl | rfl | rfl | rfl | rfl | rfl | rfl | rfl | rfl | rfl | rfl | rfl | rfl | rfl | rfl | rfl | rfl | rfl | rfl | rfl | rfl | rfl | rfl | rfl | rfl <;> decide +kernel
theorem and_mask {a b : Int} (h : 0 ≤ b ∧ b ≤ 32) (ha : 0 ≤ a ∧ a ≤ 4294967295) : Go.bits .and .i64 a ((2 ^ (32 - (32 - b).toNat) - 1) * 2 ^ (32 - b).toNat) = a / sz b * sz b :=
  and_high a _ ha.1 ha.2 (by omega)
/-- A prefix is valid. -/
def okP (a b : Int) : Prop := (0 ≤ a ∧ a ≤ 4294967295) ∧ (0 ≤ b ∧ b ≤ 32) ∧ a % sz b = 0
instance (a b : Int) : Decidable (okP a b) := by unfold okP; exact inferInstance
theorem div_back {a s : Int} (hs : 0 < s) : (a / s * s = a) ↔ a % s = 0 := by
  have := Int.mul_ediv_add_emod a s
  rw [Int.mul_comm] at this
  omega
theorem specOK_f (a b : Int) {k : Nat} (hk : 40 ≤ k) : spec_l02PrefixOK.f k a b = some (decide (okP a b)) := by
  unfold spec_l02PrefixOK.f okP
  rw [addrOK_f, in_f]
  simp only [Option.bind_some]
  by_cases ha : 0 ≤ a ∧ a ≤ 4294967295
  · by_cases hb : 0 ≤ b ∧ b ≤ 32
    · rw [size_f hb hk]
      have := sz_pos b
      simp only [ha, hb, and_self, decide_true, if_true, Option.bind_some, true_and]
      rw [if_neg (by omega), tm_pos _ ha.1]
      congr 1
    · simp [ha, hb]
  · simp [ha]
theorem implOK_f (a b : Int) : impl_okPrefix.f a b = some (decide (okP a b)) := by
  unfold impl_okPrefix.f okP
  rw [isAddr_f]
  simp only [Option.bind_some]
  by_cases ha : 0 ≤ a ∧ a ≤ 4294967295
  · by_cases hb : 0 ≤ b ∧ b ≤ 32
    · rw [mask_f hb]
      have hs := sz_pos b
      simp only [ha, and_self, decide_true, if_true, Option.bind_some, true_and]
      rw [if_pos (by omega), if_pos (by omega), and_mask hb ha]
      simp only [hb, and_self, true_and]
      congr 1
      have := div_back (a := a) hs
      rw [Bool.eq_iff_iff]
      simp only [beq_iff_eq, decide_eq_true_eq]
      exact this
    · simp only [ha, hb, and_self, decide_true, if_true, false_and, and_false, decide_false]
      by_cases h1 : b ≥ 0
      · rw [if_pos h1, if_neg (by omega)]
      · rw [if_neg h1]
  · simp [ha]

/-! ### has -/
theorem mul_eq_iff {q a s : Int} (hs : 0 < s) (h : a % s = 0) : q * s = a ↔ q = a / s := by
  have := Int.mul_ediv_add_emod a s
  constructor
  · intro e
    rw [← e, Int.mul_ediv_cancel _ (by omega)]
  · intro e
    rw [e, Int.mul_comm]
    omega
/-- An address is one of a prefix. -/
def hasP (a b x : Int) : Bool := decide (okP a b) && decide (0 ≤ x ∧ x ≤ 4294967295) && (x / sz b == a / sz b)
theorem ediv_small {a s : Int} (ha : 0 ≤ a ∧ a ≤ 4294967295) (hs : 0 < s) : 0 ≤ a / s ∧ a / s ≤ 4294967295 := by
  refine ⟨Int.ediv_nonneg ha.1 (by omega), ?_⟩
  have := Int.ediv_le_self s ha.1
  omega
theorem specHas_f (a b x : Int) {k : Nat} (hk : 40 ≤ k) : spec_PrefixHas.f k a b x = some (hasP a b x) := by
  unfold spec_PrefixHas.f hasP
  rw [specOK_f _ _ hk, addrOK_f]
  simp only [Option.bind_some]
  by_cases h : okP a b
  · by_cases hx : 0 ≤ x ∧ x ≤ 4294967295
    · have hs := sz_pos b
      rw [size_f h.2.1 hk]
      simp only [h, hx, and_self, decide_true, if_true, Option.bind_some, Bool.true_and]
      rw [if_neg (by omega), if_neg (by omega), td_pos _ hx.1, td_pos _ h.1.1]
      have h1 := ediv_small hx hs
      have h2 := ediv_small h.1 hs
      rw [wr64 (by omega), wr64 (by omega)]
    · simp [h, hx]
  · simp [h]
theorem implHas_f (a b x : Int) : impl_PrefixHas.f a b x = some (hasP a b x) := by
  unfold impl_PrefixHas.f hasP
  rw [implOK_f, isAddr_f]
  simp only [Option.bind_some]
  by_cases h : okP a b
  · by_cases hx : 0 ≤ x ∧ x ≤ 4294967295
    · have hs := sz_pos b
      rw [mask_f h.2.1]
      simp only [h, hx, and_self, decide_true, if_true, Option.bind_some, Bool.true_and]
      rw [and_mask h.2.1 hx]
      congr 1
      rw [Bool.eq_iff_iff]
      simp only [beq_iff_eq]
      exact mul_eq_iff hs h.2.2
    · simp [h, hx]
  · simp [h]

/-! ### kind -/
theorem kind_eq (a : Int) : spec_AddrKind.f a = impl_AddrKind.f a := by
  unfold spec_AddrKind.f impl_AddrKind.f
  rw [addrOK_f, isAddr_f]
  simp only [Option.bind_some]
  by_cases h : 0 ≤ a ∧ a ≤ 4294967295
  · simp only [h, and_self, decide_true, if_true]
    repeat' split
    all_goals first | rfl | omega
  · simp [h]
theorem kind_some (a : Int) : ∃ r, impl_AddrKind.f a = some r := by
  unfold impl_AddrKind.f
  rw [isAddr_f]
  simp only [Option.bind_some]
  repeat' split
  all_goals exact ⟨_, rfl⟩

/-! ### route -/
def okV (a : Int) : Bool := impl_AddrKind.f a == some 6
def okR (r : S58) : Bool := decide (okP r.f0.f0 r.f0.f1) && (decide (r.f1 = 0) || okV r.f1) && decide (0 ≤ r.f2 ∧ r.f2 ≤ 7) && decide (0 ≤ r.f3 ∧ r.f3 ≤ 1000000)
theorem specR_f (r : S58) {k : Nat} (hk : 40 ≤ k) : spec_l08OK.f k r.f0.f0 r.f0.f1 r.f1 r.f2 r.f3 = some (okR r) := by
  unfold spec_l08OK.f okR okV
  rw [specOK_f _ _ hk, kind_eq]
  obtain ⟨q, hq⟩ := kind_some r.f1
  rw [hq]
  simp only [in_f, Option.bind_some]
  by_cases h1 : okP r.f0.f0 r.f0.f1
  · by_cases h2 : r.f1 = 0
    · by_cases h3 : 0 ≤ r.f2 ∧ r.f2 ≤ 7 <;> simp [h1, h2, h3]
    · by_cases h4 : q = 6
      · by_cases h3 : 0 ≤ r.f2 ∧ r.f2 ≤ 7 <;> simp [h1, h2, h3, h4]
      · simp [h1, h2, h4]
  · simp [h1]
theorem implR_f (r : S58) : impl_okRoute.f r.f0.f0 r.f0.f1 r.f1 r.f2 r.f3 = some (okR r) := by
  unfold impl_okRoute.f okR okV
  rw [implOK_f]
  obtain ⟨q, hq⟩ := kind_some r.f1
  rw [hq]
  simp only [Option.bind_some]
  have e : (if r.f2 ≥ 0 then (if r.f2 ≤ 7 then (if r.f3 ≥ 0 then (some (decide (r.f3 ≤ 1000000))) else (some false)) else (some false)) else (some false)) = some (decide (0 ≤ r.f2 ∧ r.f2 ≤ 7) && decide (0 ≤ r.f3 ∧ r.f3 ≤ 1000000)) := by
    by_cases h1 : r.f2 ≥ 0 <;> by_cases h2 : r.f2 ≤ 7 <;> by_cases h3 : r.f3 ≥ 0 <;> simp [h1, h2, h3]
  rw [e]
  by_cases h1 : okP r.f0.f0 r.f0.f1
  · by_cases h2 : r.f1 = 0
    · simp [h1, h2]
    · by_cases h4 : q = 6 <;> simp [h1, h2, h4]
  · simp [h1]
theorem rdR {l : List S58} {i : Nat} (h : i < l.length) : rd_T58 l (i : Int) = l[i] := by
  unfold rd_T58
  rw [Int.toNat_natCast, List.getD_eq_getElem?_getD, List.getElem?_eq_getElem h]
  rfl
def valid (d : Int) (r : S58) : Bool := okR r && hasP r.f0.f0 r.f0.f1 d
def stI (d : Int) (b : Option S58) (r : S58) : Option S58 := if valid d r = true then (match b with | none => some r | some c => if r.f0.f1 > c.f0.f1 then some r else if r.f0.f1 = c.f0.f1 then (if r.f3 < c.f3 then some r else b) else b) else b
def stS (d n : Int) (b : Option S58) (r : S58) : Option S58 := if valid d r = true then (if r.f0.f1 = n then (match b with | none => some r | some c => if r.f3 < c.f3 then some r else b) else b) else b
def ot (c : Option S58) : Int × Int × Int × Int × Int × Bool := ((c.getD z58).f0.f0, (c.getD z58).f0.f1, (c.getD z58).f1, (c.getD z58).f2, (c.getD z58).f3, c.isSome)
theorem implL (l : List S58) (d : Int) (hn : l.length ≤ 1048576) (m : Nat) : ∀ (k i : Nat) (b : Option S58), i + m = l.length → m < k → impl_FindRoute.l0 k d b.isSome l (l.length : Int) (i : Int) (b.getD z58).f0.f0 (b.getD z58).f0.f1 (b.getD z58).f1 (b.getD z58).f2 (b.getD z58).f3 = some (ot ((l.drop i).foldl (stI d) b)) := by
  induction m with
  | zero =>
    intro k i b hi hk
    obtain ⟨k, rfl⟩ : ∃ m, k = m + 1 := ⟨k - 1, by omega⟩
    rw [impl_FindRoute.l0, if_neg (by omega), List.drop_eq_nil_of_le (by omega)]
    rfl
  | succ m ih =>
    intro k i b hi hk
    obtain ⟨k, rfl⟩ : ∃ m, k = m + 1 := ⟨k - 1, by omega⟩
    rw [impl_FindRoute.l0, if_pos (by omega), if_pos (by omega), if_pos (by omega), rdR (by omega), implR_f, wr_succ (n := l.length) (by omega) (by omega), List.drop_eq_getElem_cons (show i < l.length by omega), List.foldl_cons]
    simp only [Option.bind_some, implHas_f]
    have go := fun b => ih k (i + 1) b (by omega) (by omega)
    obtain ⟨r, hr⟩ : ∃ r, r = l[i] := ⟨_, rfl⟩
    rw [← hr]
    have h1 := go b
    have h2 := go (some r)
    simp only [Option.isSome_some, Option.getD_some] at h2
    unfold stI valid
    by_cases e1 : okR r = true
    · rw [if_pos e1]
      by_cases e2 : hasP r.f0.f0 r.f0.f1 d = true
      · rw [if_pos e2, if_pos (show (okR r && hasP r.f0.f0 r.f0.f1 d) = true by rw [e1, e2]; rfl)]
        cases b with
        | none =>
          rw [if_neg (by simp)]
          exact h2
        | some c =>
          simp only [Option.isSome_some, Option.getD_some, if_true] at h1 ⊢
          by_cases e3 : r.f0.f1 > c.f0.f1
          · rw [if_pos e3, if_pos e3]
            exact h2
          · rw [if_neg e3, if_neg e3]
            by_cases e4 : r.f0.f1 = c.f0.f1
            · rw [if_pos e4, if_pos e4]
              by_cases e5 : r.f3 < c.f3
              · rw [if_pos e5, if_pos e5]
                exact h2
              · rw [if_neg e5, if_neg e5]
                exact h1
            · rw [if_neg e4, if_neg e4]
              exact h1
      · rw [if_neg e2, if_neg (show ¬ (okR r && hasP r.f0.f0 r.f0.f1 d) = true by rw [e1]; simpa using e2)]
        exact h1
    · rw [if_neg e1, if_neg (show ¬ (okR r && hasP r.f0.f0 r.f0.f1 d) = true by simp [e1])]
      exact h1
theorem specL (l : List S58) (d n : Int) (hn : l.length ≤ 1048576) {k0 : Nat} (h0 : 40 ≤ k0) (m : Nat) : ∀ (i : Nat) (b : Option S58), i + m = l.length → spec_FindRoute.l1 (k0 + m + 1) l d n b.isSome (i : Int) (b.getD z58).f0.f0 (b.getD z58).f0.f1 (b.getD z58).f1 (b.getD z58).f2 (b.getD z58).f3 = (if ((l.drop i).foldl (stS d n) b).isSome = true then some (ot ((l.drop i).foldl (stS d n) b)) else spec_FindRoute.l0 k0 l d (wrap64 (n - 1))) := by
  induction m with
  | zero =>
    intro i b hi
    rw [spec_FindRoute.l1, if_neg (by omega), List.drop_eq_nil_of_le (by omega)]
    cases b <;> rfl
  | succ m ih =>
    intro i b hi
    rw [spec_FindRoute.l1, if_pos (by omega), if_pos (by omega), rdR (by omega), specR_f _ (by omega), wr_succ (n := l.length) (by omega) (by omega), List.drop_eq_getElem_cons (show i < l.length by omega), List.foldl_cons]
    simp only [Option.bind_some]
    rw [show k0 + (m + 1) = k0 + m + 1 from by omega]
    have go := fun b => ih (i + 1) b (by omega)
    obtain ⟨r, hr⟩ : ∃ r, r = l[i] := ⟨_, rfl⟩
    rw [← hr, specHas_f _ _ _ (by omega)]
    simp only [Option.bind_some]
    have h1 := go b
    have h2 := go (some r)
    simp only [Option.isSome_some, Option.getD_some] at h2
    unfold stS valid
    by_cases e1 : okR r = true
    · rw [if_pos e1]
      by_cases e3 : r.f0.f1 = n
      · rw [if_pos e3]
        by_cases e2 : hasP r.f0.f0 r.f0.f1 d = true
        · rw [if_pos e2, if_pos (show (okR r && hasP r.f0.f0 r.f0.f1 d) = true by rw [e1, e2]; rfl), if_pos e3]
          cases b with
          | none =>
            rw [if_neg (by simp)]
            exact h2
          | some c =>
            simp only [Option.isSome_some, Option.getD_some, if_true] at h1 ⊢
            by_cases e5 : r.f3 < c.f3
            · rw [if_pos e5, if_pos e5]
              exact h2
            · rw [if_neg e5, if_neg e5]
              exact h1
        · rw [if_neg e2, if_neg (show ¬ (okR r && hasP r.f0.f0 r.f0.f1 d) = true by rw [e1]; simpa using e2)]
          exact h1
      · rw [if_neg e3, if_neg e3, ite_self]
        exact h1
    · rw [if_neg e1, if_neg (show ¬ (okR r && hasP r.f0.f0 r.f0.f1 d) = true by simp [e1])]
      exact h1
def Rl (a : Option S58) (b : Int → Option S58) : Prop := (a = none → ∀ n, b n = none) ∧ ∀ c, a = some c → b c.f0.f1 = some c ∧ (∀ n, n > c.f0.f1 → b n = none) ∧ (0 ≤ c.f0.f1 ∧ c.f0.f1 ≤ 32)
theorem okR_bits {d : Int} {r : S58} (h : valid d r = true) : 0 ≤ r.f0.f1 ∧ r.f0.f1 ≤ 32 := by
  unfold valid okR okP at h
  simp only [Bool.and_eq_true] at h
  exact (of_decide_eq_true h.1.1.1.1).2.1
theorem Rl_step {a : Option S58} {b : Int → Option S58} (d : Int) (r : S58) (h : Rl a b) : Rl (stI d a r) (fun n => stS d n (b n) r) := by
  unfold stI stS
  by_cases hv : valid d r = true
  · simp only [hv, if_true]
    have hb := okR_bits hv
    cases a with
    | none =>
      have h0 := h.1 rfl
      refine ⟨fun e => by simp at e, fun c e => ?_⟩
      injection e with e
      subst e
      refine ⟨?_, fun n hn => ?_, hb⟩
      · simp only [if_true, h0]
      · simp only [if_neg (show ¬ r.f0.f1 = n by omega), h0]
    | some c =>
      obtain ⟨h1, h2, h3⟩ := h.2 c rfl
      by_cases e3 : r.f0.f1 > c.f0.f1
      · simp only [e3, if_true]
        refine ⟨fun e => by simp at e, fun c' e => ?_⟩
        injection e with e
        subst e
        refine ⟨?_, fun n hn => ?_, hb⟩
        · simp only [if_true, h2 _ e3]
        · simp only [if_neg (show ¬ r.f0.f1 = n by omega), h2 n (by omega)]
      · simp only [e3, if_false]
        by_cases e4 : r.f0.f1 = c.f0.f1
        · simp only [e4, if_true]
          by_cases e5 : r.f3 < c.f3
          · simp only [e5, if_true]
            refine ⟨fun e => by simp at e, fun c' e => ?_⟩
            injection e with e
            subst e
            rw [e4]
            refine ⟨?_, fun n hn => ?_, h3⟩
            · simp only [if_true, h1, e5]
            · simp only [if_neg (show ¬ c.f0.f1 = n by omega), h2 n (by omega)]
          · simp only [e5, if_false]
            refine ⟨fun e => by simp at e, fun c' e => ?_⟩
            injection e with e
            subst e
            refine ⟨?_, fun n hn => ?_, h3⟩
            · simp only [if_true, h1, e5, if_false]
            · simp only [if_neg (show ¬ c.f0.f1 = n by omega), h2 n (by omega)]
        · simp only [e4, if_false]
          refine ⟨fun e => by simp at e, fun c' e => ?_⟩
          injection e with e
          subst e
          refine ⟨?_, fun n hn => ?_, h3⟩
          · simp only [e4, if_false, h1]
          · by_cases e6 : r.f0.f1 = n
            · omega
            · simp only [e6, if_false, h2 n hn]
  · simp only [hv, if_false]
    exact h
theorem Rl_fold (d : Int) (l : List S58) : ∀ (a : Option S58) (b : Int → Option S58), Rl a b → Rl (l.foldl (stI d) a) (fun n => l.foldl (stS d n) (b n)) := by
  induction l with
  | nil => exact fun a b h => h
  | cons r l ih => exact fun a b h => ih _ _ (Rl_step d r h)
def best (d : Int) (l : List S58) : Option S58 := l.foldl (stI d) none
theorem Rl_best (d : Int) (l : List S58) : Rl (best d l) (fun n => l.foldl (stS d n) none) := Rl_fold d l none (fun _ => none) ⟨fun _ _ => rfl, fun c e => by simp at e⟩
theorem implFind_f (l : List S58) (d : Int) (hn : l.length ≤ 1048576) {k : Nat} (hk : l.length < k) : impl_FindRoute.f k l d = some (ot (best d l)) := by
  unfold impl_FindRoute.f
  exact implL l d hn l.length k 0 none (by omega) hk
theorem specFind_l (l : List S58) (d : Int) (hn : l.length ≤ 1048576) (j : Nat) (hj : j ≤ 33) (hb : ∀ c, best d l = some c → c.f0.f1 < (j : Int)) : ∃ K, ∀ k, K ≤ k → spec_FindRoute.l0 k l d ((j : Int) - 1) = some (ot (best d l)) := by
  induction j with
  | zero =>
    refine ⟨1, fun k hk => ?_⟩
    obtain ⟨k, rfl⟩ : ∃ m, k = m + 1 := ⟨k - 1, by omega⟩
    rw [spec_FindRoute.l0, if_neg (by omega)]
    cases h : best d l with
    | none => rfl
    | some c =>
      have h1 := hb c h
      have h2 := ((Rl_best d l).2 c h).2.2
      omega
  | succ j ih =>
    have hR := Rl_best d l
    have e0 : ((j + 1 : Nat) : Int) - 1 = (j : Int) := by omega
    rw [e0]
    by_cases hc : ∃ c, best d l = some c ∧ c.f0.f1 = (j : Int)
    · obtain ⟨c, hc, hcb⟩ := hc
      refine ⟨40 + l.length + 1 + 1, fun k hk => ?_⟩
      obtain ⟨k0, rfl⟩ : ∃ m, k = m + l.length + 1 + 1 := ⟨k - l.length - 2, by omega⟩
      rw [spec_FindRoute.l0, if_pos (by omega)]
      refine (specL l d (j : Int) hn (k0 := k0) (by omega) l.length 0 none (by omega)).trans ?_
      have h1 : l.foldl (stS d (j : Int)) none = some c := by
        have h1 := (hR.2 c hc).1
        rw [hcb] at h1
        exact h1
      simp only [List.drop_zero]
      rw [h1, hc]
      rfl
    · have hlt : ∀ c, best d l = some c → c.f0.f1 < (j : Int) := by
        intro c h
        have h1 := hb c h
        have h2 : c.f0.f1 ≠ (j : Int) := fun e => hc ⟨c, h, e⟩
        omega
      obtain ⟨K, hK⟩ := ih (by omega) hlt
      refine ⟨K + 40 + l.length + 1 + 1, fun k hk => ?_⟩
      obtain ⟨k0, rfl⟩ : ∃ m, k = m + l.length + 1 + 1 := ⟨k - l.length - 2, by omega⟩
      rw [spec_FindRoute.l0, if_pos (by omega)]
      refine (specL l d (j : Int) hn (k0 := k0) (by omega) l.length 0 none (by omega)).trans ?_
      have h1 : l.foldl (stS d (j : Int)) none = none := by
        cases h : best d l with
        | none => exact hR.1 h (j : Int)
        | some c => exact (hR.2 c h).2.1 (j : Int) (hlt c h)
      simp only [List.drop_zero]
      rw [h1, if_neg (by simp), wr64 (by omega)]
      exact hK k0 (by omega)
theorem specFind_f (l : List S58) (d : Int) (hn : l.length ≤ 1048576) : ∃ K, ∀ k, K ≤ k → spec_FindRoute.f k l d = some (ot (best d l)) := by
  obtain ⟨K, hK⟩ := specFind_l l d hn 33 (by omega) (fun c h => by have := ((Rl_best d l).2 c h).2.2; omega)
  exact ⟨K, fun k hk => hK k hk⟩

/-! ### routes -/
def cvR (x : S132) : S58 := ⟨⟨x.f0.f0, x.f0.f1⟩, x.f1, x.f2, x.f3⟩
theorem toR_l (x0 : List S132) (hn : x0.length ≤ 1048576) (d : Nat) : ∀ (k i : Nat) (x3 : List S58), i + d = x0.length → d < k → x3.length = x0.length → (∀ j, j < i → x3[j]? = (x0.map cvR)[j]?) → laws_toRouteS.l0 k x0 x3 (i : Int) = some (x0.map cvR) := by
  induction d with
  | zero =>
    intro k i x3 hi hk hl he
    obtain ⟨k, rfl⟩ : ∃ m, k = m + 1 := ⟨k - 1, by omega⟩
    simp only [laws_toRouteS.l0]
    rw [if_neg (by omega)]
    congr 1
    apply List.ext_getElem?
    intro j
    by_cases hj : j < i
    · exact he j hj
    · rw [List.getElem?_eq_none (by omega), List.getElem?_eq_none (by rw [List.length_map]; omega)]
  | succ d ih =>
    intro k i x3 hi hk hl he
    obtain ⟨k, rfl⟩ : ∃ m, k = m + 1 := ⟨k - 1, by omega⟩
    simp only [laws_toRouteS.l0, laws_toRoute.f, laws_toPrefix.f, Option.bind_some]
    rw [if_pos (by omega), if_pos (by omega), if_pos (by omega), wr_succ (n := x0.length) (by omega) (by omega)]
    refine ih k (i + 1) _ (by omega) (by omega) (by simp [hl]) ?_
    intro j hj
    rw [Int.toNat_natCast]
    by_cases e : j = i
    · subst e
      rw [List.getElem?_set_self (by omega), List.getElem?_map, List.getElem?_eq_getElem (show j < x0.length by omega)]
      unfold rd_T132 cvR
      rw [Int.toNat_natCast, List.getD_eq_getElem?_getD, List.getElem?_eq_getElem (show j < x0.length by omega)]
      rfl
    · rw [List.getElem?_set_ne (by omega)]
      exact he j (by omega)
theorem toR_f {l : List S132} (hn : l.length ≤ 1048576) {k : Nat} (hk : l.length < k) : laws_toRouteS.f k l = some (l.map cvR) := by
  unfold laws_toRouteS.f
  rw [if_pos (by omega), if_pos (by rw [Int.toNat_natCast]; omega), Int.toNat_natCast]
  exact toR_l l hn l.length k 0 _ (by omega) hk (by simp) (fun j hj => absurd hj (by omega))
theorem eqRt_same (a b c d e : Int) : laws_eqRoute.f a b c d e a b c d e = some true := by
  unfold laws_eqRoute.f laws_eqPrefix.f
  simp
theorem eqR_l (x : List S58) (hn : x.length ≤ 1048576) (d : Nat) : ∀ (k i : Nat), i + d = x.length → d < k → laws_eqRouteS.l0 k x x (i : Int) = some true := by
  induction d with
  | zero =>
    intro k i hi hk
    obtain ⟨k, rfl⟩ : ∃ m, k = m + 1 := ⟨k - 1, by omega⟩
    simp only [laws_eqRouteS.l0]
    rw [if_neg (by omega)]
  | succ d ih =>
    intro k i hi hk
    obtain ⟨k, rfl⟩ : ∃ m, k = m + 1 := ⟨k - 1, by omega⟩
    simp only [laws_eqRouteS.l0, eqRt_same, if_true, Option.bind_some]
    rw [if_pos (by omega), if_pos (by omega), if_pos (by omega), wr_succ (n := x.length) (by omega) (by omega)]
    exact ih k (i + 1) (by omega) (by omega)
theorem eqR_same {l : List S58} (hn : l.length ≤ 1048576) {k : Nat} (hk : l.length < k) : laws_eqRouteS.f k l l = some true := by
  unfold laws_eqRouteS.f
  rw [if_pos rfl]
  exact eqR_l l hn l.length k 0 (by omega) hk

/-! ### the law -/
theorem FnExactFindRoute (l : List S132) (d : Int) (hl : l.length ≤ maxLen) (hlw : ∀ x ∈ l, ((Lit.int .i64 x.f0.f0).wf = true ∧ (Lit.int .i64 x.f0.f1).wf = true ∧ (Lit.int .i64 x.f1).wf = true ∧ (Lit.int .i64 x.f2).wf = true ∧ (Lit.int .i64 x.f3).wf = true)) (wd : (Lit.int .i64 d).wf = true) : ∃ k, laws_FnExactFindRoute.f k l d = some true := by
  have hl2 : l.length ≤ 9223372036854775807 := by unfold maxLen at hl; exact hl
  by_cases h : (l.length : Int) > 1048576
  · refine ⟨0, ?_⟩
    unfold laws_FnExactFindRoute.f laws_szRouteS.f
    rw [wr64 (by omega), if_pos (by omega)]
    simp only [Option.bind_some]
    rw [if_pos (by omega)]
  · have hn : l.length ≤ 1048576 := by omega
    have hm : (l.map cvR).length ≤ 1048576 := by rw [List.length_map]; exact hn
    obtain ⟨K, hK⟩ := specFind_f (l.map cvR) d hm
    obtain ⟨k, hk⟩ : ∃ k, k = K + l.length + 1 := ⟨_, rfl⟩
    refine ⟨k + 1, ?_⟩
    unfold laws_FnExactFindRoute.f laws_szRouteS.f
    rw [wr64 (by omega), if_neg (by omega)]
    simp only [Option.bind_some]
    rw [if_neg (by omega), toR_f hn (by omega)]
    simp only [Option.bind_some]
    rw [hK _ (by omega), implFind_f _ d hm (by rw [List.length_map]; omega)]
    simp only [Option.bind_some, eqRt_same, if_true, laws_FnExactFindRoute.j0, bne_self_eq_false, Bool.false_eq_true, if_false]
    rw [toR_f hn (by omega)]
    simp only [Option.bind_some]
    rw [eqR_same hm (by rw [List.length_map]; omega)]
    rfl

end Go.Proofs.Ytobaoffcepmeiaa.Pure
