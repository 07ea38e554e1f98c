/- The program's ReadMac answers as the reference's, for every text; without conditions. -/
import Derived.Test.YtnnplkhjmdbmbaaDoorPFnExactReadMacx1
set_option linter.unusedVariables false
set_option linter.unusedSimpArgs false
namespace Go.Proofs.YtnnplkhjmdbmbaaDoor.Pure
open Go.RowKit Go.Proofs.YtnnplkhjmdbmbaaDoor.PFnExactReadMac Go.Proofs.YtnnplkhjmdbmbaaDoorW.PrintWords Go.Proofs.YtnnplkhjmdbmbaaDoorW.PrintLast

/-! ### base -/
theorem wf64 {a : Int} (h : (Lit.int .i64 a).wf = true) : -9223372036854775808 ≤ a ∧ a ≤ 9223372036854775807 := by
  have h1 : IntKind.i64.min = -9223372036854775808 := by decide
  have h2 : IntKind.i64.max = 9223372036854775807 := by decide
  simp only [Lit.wf, Bool.and_eq_true, decide_eq_true_eq] at h
  omega
theorem tm_pos {a : Int} (n : Int) (h : 0 ≤ a) : Int.tmod a n = a % n := Int.tmod_eq_emod_of_nonneg h
theorem tm_neg {a : Int} (n : Int) (h : a ≤ 0) : Int.tmod a n = -((-a) % n) := by
  have := Int.neg_tmod (-a) n
  rw [Int.neg_neg] at this
  rw [this, Int.tmod_eq_emod_of_nonneg (by omega)]
theorem td_pos {a : Int} (n : Int) (h : 0 ≤ a) : Int.tdiv a n = a / n := Int.tdiv_eq_ediv_of_nonneg h
theorem wr64 {a : Int} (h : -9223372036854775808 ≤ a ∧ a ≤ 9223372036854775807) : wrap64 a = a := by
  unfold wrap64
  omega
theorem dec_eq {p : Prop} [Decidable p] {b : Bool} (h : b = true ↔ p) : some b = some (decide p) := by
  rw [Option.some.injEq, Bool.eq_iff_iff, decide_eq_true_eq]
  exact h
theorem ite_dec (p q : Prop) [Decidable p] [Decidable q] : (if p then some (decide q) else some false) = some (decide (p ∧ q)) := by
  by_cases h : p <;> simp [h]
theorem beq_dec (a b : Int) : (a == b) = decide (a = b) := by
  rw [Bool.eq_iff_iff]
  simp

/-! ### bits -/
theorem wraps_i64 (n : Int) (h₀ : 0 ≤ n) (h₁ : n < 2 ^ 63) : IntKind.i64.wrap n = n := by rw [IntKind.wrap_i64]; omega
/-- The low bits of any whole number. -/
theorem and_low (i : Nat) (hi : i ≤ 62) (x : Int) : Go.bits .and .i64 x (2 ^ i - 1) = x % 2 ^ i := by
  have hpos : 0 < 2 ^ i := Nat.two_pow_pos i
  have h62 : 2 ^ i ≤ 2 ^ 62 := Nat.pow_le_pow_right (by decide) hi
  have hc : ((2 : Int) ^ i - 1) = ((2 ^ i - 1 : Nat) : Int) := by
    rw [Int.natCast_sub hpos]; simp
  have hx0 : 0 ≤ x % 18446744073709551616 := Int.emod_nonneg _ (by decide)
  have hx : (BitVec.ofInt 64 x).toNat = (x % 18446744073709551616).toNat := by rw [BitVec.toNat_ofInt]; rfl
  have hd : ((2 : Int) ^ i) ∣ 18446744073709551616 := by
    rw [show (18446744073709551616 : Int) = 2 ^ 64 from rfl]
    exact ⟨2 ^ (64 - i), by rw [← Int.pow_add, show i + (64 - i) = 64 from by omega]⟩
  have h2 : ((x % 18446744073709551616).toNat % 2 ^ i : Nat) = (x % 2 ^ i).toNat := by
    apply Int.ofNat.inj
    have e1 : (((x % 18446744073709551616).toNat % 2 ^ i : Nat) : Int) = x % 2 ^ i := by
      rw [Int.natCast_emod, Int.toNat_of_nonneg hx0, Int.natCast_pow]
      exact Int.emod_emod_of_dvd _ hd
    have e2 : 0 ≤ x % 2 ^ i := Int.emod_nonneg _ (by have : (0 : Int) < 2 ^ i := Int.pow_pos (by decide); omega)
    exact e1.trans (Int.toNat_of_nonneg e2).symm
  have e2 : 0 ≤ x % 2 ^ i := Int.emod_nonneg _ (by have : (0 : Int) < 2 ^ i := Int.pow_pos (by decide); omega)
  have e3 : x % 2 ^ i < 2 ^ i := Int.emod_lt_of_pos _ (Int.pow_pos (by decide))
  have e4 : (2 : Int) ^ i ≤ 2 ^ 62 := by exact_mod_cast h62
  have key : Go.bits .and .i64 x (2 ^ i - 1) = IntKind.i64.wrap (((BitVec.ofInt 64 x).toNat &&& (BitVec.ofInt 64 ((2 ^ i - 1 : Nat) : Int)).toNat : Nat) : Int) := by
    rw [hc]
    show IntKind.i64.wrap ((BitVec.ofInt 64 x &&& BitVec.ofInt 64 ((2 ^ i - 1 : Nat) : Int)).toNat : Int) = _
    rw [BitVec.toNat_and]
  rw [key, hx]
  have hm : (BitVec.ofInt 64 ((2 ^ i - 1 : Nat) : Int)).toNat = 2 ^ i - 1 := by
    rw [BitVec.ofInt_natCast, BitVec.toNat_ofNat]
    exact Nat.mod_eq_of_lt (by omega)
  rw [hm, Nat.and_two_pow_sub_one_eq_mod, h2, Int.toNat_of_nonneg e2]
  exact wraps_i64 _ e2 (by omega)
theorem and_65535 (x : Int) : Go.bits .and .i64 x 65535 = x % 65536 := and_low 16 (by decide) x
theorem and_255 (x : Int) : Go.bits .and .i64 x 255 = x % 256 := and_low 8 (by decide) x
theorem nat_and_high (a n : Nat) (ha : a < 2 ^ 32) (hn : n ≤ 32) : a &&& ((2 ^ (32 - n) - 1) * 2 ^ n) = a / 2 ^ n * 2 ^ n := by
  apply Nat.eq_of_testBit_eq
  intro i
  rw [Nat.testBit_and, Nat.testBit_mul_two_pow, Nat.testBit_mul_two_pow, Nat.testBit_div_two_pow, Nat.testBit_two_pow_sub_one]
  by_cases h : n ≤ i
  · simp only [h, decide_true, Bool.true_and]
    rw [show i - n + n = i from by omega]
    by_cases h3 : i - n < 32 - n
    · simp [h3]
    · have : a.testBit i = false := Nat.testBit_lt_two_pow (Nat.lt_of_lt_of_le ha (Nat.pow_le_pow_right (by decide) (by omega)))
      simp [this]
  · simp [h]
theorem and_high (a : Int) (n : Nat) (h0 : 0 ≤ a) (h1 : a ≤ 4294967295) (hn : n ≤ 32) : Go.bits .and .i64 a ((2 ^ (32 - n) - 1) * 2 ^ n) = a / 2 ^ n * 2 ^ n := by
  obtain ⟨b, rfl⟩ := Int.eq_ofNat_of_zero_le h0
  have hc : (((2 : Int) ^ (32 - n) - 1) * 2 ^ n) = (((2 ^ (32 - n) - 1) * 2 ^ n : Nat) : Int) := by
    rw [Int.natCast_mul, Int.natCast_sub (Nat.two_pow_pos _)]; simp
  have hl : (2 ^ (32 - n) - 1) * 2 ^ n ≤ 4294967295 := by
    rw [Nat.sub_mul, ← Nat.pow_add, show 32 - n + n = 32 from by omega]
    have := Nat.two_pow_pos n
    omega
  rw [hc, (bits_nat .i64 63 (by decide) wraps_i64 b _ (by omega) (by omega)).1, nat_and_high b n (by omega) hn]
  simp

/-! ### lists -/
theorem rd_at {xs : List Int} {i : Nat} (h : i < xs.length) : rd xs (i : Int) = xs[i] := by
  unfold rd
  rw [Int.toNat_natCast, List.getD_eq_getElem?_getD, List.getElem?_eq_getElem h]
  rfl
theorem wr_succ {i n : Nat} (h : i < n) (hn : n ≤ 281474976710656) : wrap64 ((i : Int) + 1) = ((i + 1 : Nat) : Int) := by
  rw [wr64 (by omega)]
  omega
theorem maxLen_le {n : Nat} (h : n ≤ 1048576) : n ≤ 281474976710656 := by omega

/-! ### txt -/
def BA (l : List UInt8) : ByteArray := ⟨l.toArray⟩
theorem BA_data (l : List UInt8) : (BA l).data.toList = l := by simp [BA]
theorem BA_size (l : List UInt8) : (BA l).size = l.length := by simp [BA, ByteArray.size]
theorem BA_ext {a b : ByteArray} (h : a.data.toList = b.data.toList) : a = b := by
  obtain ⟨⟨a⟩⟩ := a
  obtain ⟨⟨b⟩⟩ := b
  simp at h
  rw [h]
theorem BA_of (s : ByteArray) : BA s.data.toList = s := BA_ext (BA_data _)
theorem BA_app (a b : List UInt8) : BA a ++ BA b = BA (a ++ b) := by
  apply BA_ext
  rw [BA_data]
  simp [BA, ByteArray.data_append]
theorem son_BA (l : List Int) : strOfNums l = BA (l.map fun n => UInt8.ofNat n.toNat) := by
  simp [strOfNums, BA]

/-! ### cutl -/
/-- A text cut at each byte c; 'cur' is what has been read of the piece. -/
def cutA (c : UInt8) : List UInt8 → List UInt8 → List (List UInt8)
  | cur, [] => [cur]
  | cur, b :: l => if b = c then cur :: cutA c [] l else cutA c (cur ++ [b]) l
theorem cutA_pos (c : UInt8) (l : List UInt8) : ∀ cur, 0 < (cutA c cur l).length := by
  induction l with
  | nil => intro cur; simp [cutA]
  | cons b l ih =>
    intro cur
    rw [cutA]
    split
    · simp
    · exact ih _
theorem cutA_len (c : UInt8) (l : List UInt8) : ∀ cur, ((cutA c cur l).map List.length).sum + (cutA c cur l).length = cur.length + l.length + 1 := by
  induction l with
  | nil => intro cur; simp [cutA]
  | cons b l ih =>
    intro cur
    rw [cutA]
    split
    · have := ih []
      simp only [List.map_cons, List.sum_cons, List.length_cons, List.length_nil] at this ⊢
      omega
    · have := ih (cur ++ [b])
      simp only [List.length_append, List.length_cons, List.length_nil] at this ⊢
      omega
theorem cutA_count (c : UInt8) (l : List UInt8) : ∀ cur, (cutA c cur l).length ≤ l.length + 1 := by
  induction l with
  | nil => intro cur; simp [cutA]
  | cons b l ih =>
    intro cur
    rw [cutA]
    split
    · have := ih []
      simp only [List.length_cons]
      omega
    · have := ih (cur ++ [b])
      simp only [List.length_cons]
      omega
theorem index_cut (c : UInt8) (l : List UInt8) : (Lib.index l [c] = -1 ∧ ∀ cur, cutA c cur l = [cur ++ l]) ∨ (∃ i : Nat, Lib.index l [c] = i ∧ i < l.length ∧ ∀ cur, cutA c cur l = (cur ++ l.take i) :: cutA c [] (l.drop (i + 1))) := by
  induction l with
  | nil => exact .inl ⟨rfl, fun cur => by simp [cutA]⟩
  | cons b l ih =>
    by_cases h : b = c
    · subst h
      refine .inr ⟨0, by simp [Lib.index, List.isPrefixOf], by simp, fun cur => by simp [cutA]⟩
    · have hp : [c].isPrefixOf (b :: l) = false := by
        simp only [List.isPrefixOf, Bool.and_true, beq_eq_false_iff_ne]
        exact fun e => h e.symm
      rcases ih with ⟨h1, h2⟩ | ⟨i, h1, h2, h3⟩
      · refine .inl ⟨?_, fun cur => ?_⟩
        · rw [Lib.index, hp, h1]
          rfl
        · rw [cutA, if_neg h, h2]
          simp
      · refine .inr ⟨i + 1, ?_, by simp; omega, fun cur => ?_⟩
        · rw [Lib.index, hp, h1]
          have : ((i : Int) == -1) = false := by rw [beq_eq_false_iff_ne]; omega
          simp [this]
        · rw [cutA, if_neg h, h3]
          simp
theorem split_cut (c : UInt8) (n : Nat) : ∀ s : ByteArray, s.size ≤ n → Lib.splitB (BA [c]) 0 (Lib.countB s (BA [c])) s = (cutA c [] s.data.toList).map BA := by
  have h1 : 1 ≤ (BA [c]).size := by rw [BA_size]; simp
  have hs1 : (BA [c]).size = 1 := by rw [BA_size]; rfl
  have hidx : ∀ s : ByteArray, Lib.indexB s (BA [c]) = Lib.index s.data.toList [c] := fun s => by
    show Lib.index s.data.toList (BA [c]).data.toList = _
    rw [BA_data]
  have hmiss : ∀ s : ByteArray, Lib.index s.data.toList [c] = -1 → (∀ cur, cutA c cur s.data.toList = [cur ++ s.data.toList]) → Lib.splitB (BA [c]) 0 (Lib.countB s (BA [c])) s = (cutA c [] s.data.toList).map BA := by
    intro s e1 e2
    rw [Lib.splitB_miss _ _ _ _ ((hidx s).trans e1), e2]
    simp [BA_of]
  induction n with
  | zero =>
    intro s hs
    rcases index_cut c s.data.toList with ⟨e1, e2⟩ | ⟨i, e1, e2, e3⟩
    · exact hmiss s e1 e2
    · rw [← Lib.size_eq] at e2
      omega
  | succ n ih =>
    intro s hs
    rcases index_cut c s.data.toList with ⟨e1, e2⟩ | ⟨i, e1, e2, e3⟩
    · exact hmiss s e1 e2
    · rw [← Lib.size_eq] at e2
      rw [Lib.countB_hit s (BA [c]) i h1 ((hidx s).trans e1), Nat.add_comm, Lib.splitB_hit _ _ _ _ i ((hidx s).trans e1), hs1, ih _ (by rw [ByteArray.size_extract]; omega), e3, Lib.extract_to_end]
      simp only [List.nil_append, List.map_cons]
      congr 1
      apply BA_ext
      rw [BA_data, Lib.extract_data]
      simp
theorem split_f {s : ByteArray} (h : s.size ≤ 1048576) (c : UInt8) : strings_Split.f s (BA [c]) = some ((cutA c [] s.data.toList).map BA) := by
  unfold strings_Split.f
  rw [if_pos ⟨by omega, by rw [BA_size]; simp⟩, split_cut c s.size s (Nat.le_refl _)]
theorem bt_list (s : ByteArray) {i : Nat} (h : i < s.data.toList.length) : bt s (i : Int) = ((s.data.toList[i]).toNat : Int) := by
  have h2 : i < s.size := by rw [Lib.size_eq]; exact h
  simp only [bt, Int.toNat_natCast]
  rw [dif_pos h2]
  rfl

/-! ### readmac -/
/-- A hexadecimal digit's number, or -1. -/
def hexv (b : UInt8) : Int := if 48 ≤ b.toNat ∧ b.toNat ≤ 57 then (b.toNat : Int) - 48 else if 97 ≤ b.toNat ∧ b.toNat ≤ 102 then (b.toNat : Int) - 87 else if 65 ≤ b.toNat ∧ b.toNat ≤ 70 then (b.toNat : Int) - 55 else -1
theorem hexv_in (b : UInt8) : -1 ≤ hexv b ∧ hexv b ≤ 15 := by
  unfold hexv
  repeat' split
  all_goals omega
theorem hexv_58 : hexv 58 = -1 := by decide
theorem hex_fin : ∀ n : Fin 256, let t := Lib.indexByte [48, 49, 50, 51, 52, 53, 54, 55, 56, 57, 97, 98, 99, 100, 101, 102, 65, 66, 67, 68, 69, 70] (UInt8.ofNat n.val); (if t < 0 then (-1 : Int) else if t > 15 then t - 6 else t) = hexv (UInt8.ofNat n.val) ∧ t ≤ 21 := by decide +kernel
theorem hex_idx (b : UInt8) : ∃ t, strings_IndexByte.f (⟨#[48, 49, 50, 51, 52, 53, 54, 55, 56, 57, 97, 98, 99, 100, 101, 102, 65, 66, 67, 68, 69, 70]⟩ : ByteArray) (b.toNat : Int) = some t ∧ (if t < 0 then (-1 : Int) else if t > 15 then t - 6 else t) = hexv b ∧ t ≤ 21 := by
  have h := hex_fin ⟨b.toNat, b.toNat_lt⟩
  have e : UInt8.ofNat b.toNat = b := UInt8.ofNat_toNat
  simp only [e] at h
  refine ⟨_, ?_, h.1, h.2⟩
  unfold strings_IndexByte.f
  rw [Int.toNat_natCast, show b.toNat.toUInt8 = b from e]
theorem shex_f (b : UInt8) {k : Nat} (hk : 3 ≤ k) : spec_l02Hex.f k (b.toNat : Int) = some (hexv b) := by
  obtain ⟨k, rfl⟩ : ∃ m, k = m + 1 + 1 := ⟨k - 2, by omega⟩
  have hb := b.toNat_lt
  unfold hexv
  have j1 : ∀ x3, spec_l02Hex.j1 (k + 1) (b.toNat : Int) x3 = if x3 = true then some ((((b.toNat : Int) - 97) % 256) + 10) else if (b.toNat : Int) ≥ 65 then if (b.toNat : Int) ≤ 70 then some ((((b.toNat : Int) - 65) % 256) + 10) else some (-1) else some (-1) := fun x3 => by rw [spec_l02Hex.j1]
  have j0 : ∀ x3, spec_l02Hex.j0 (k + 1 + 1) (b.toNat : Int) x3 = if x3 = true then some (((b.toNat : Int) - 48) % 256) else if (b.toNat : Int) ≥ 97 then spec_l02Hex.j1 (k + 1) (b.toNat : Int) (decide ((b.toNat : Int) ≤ 102)) else spec_l02Hex.j1 (k + 1) (b.toNat : Int) false := fun x3 => by rw [spec_l02Hex.j0]
  unfold spec_l02Hex.f
  rw [j0, j0, j1, j1]
  simp only [decide_eq_true_eq, Bool.false_eq_true, if_false]
  repeat' split
  all_goals first | rfl | (congr 1; omega) | omega
def two (a b : UInt8) (m : Int) : Int := (m * 16 + hexv a) * 16 + hexv b
def macP : Nat → List UInt8 → Int → Int × Int
  | 0, [a, b], m => if hexv a < 0 then (0, 6) else if hexv b < 0 then (0, 6) else (two a b m, 0)
  | g + 1, a :: b :: c :: r, m => if hexv a < 0 then (0, 6) else if hexv b < 0 then (0, 6) else if c = 58 then macP g r (two a b m) else (0, 6)
  | _, _, _ => (0, 6)
def macQ : List (List UInt8) → Int → Int × Int
  | [], m => (m, 0)
  | [a, b] :: ps, m => if hexv a < 0 then (0, 6) else if hexv b < 0 then (0, 6) else macQ ps (two a b m)
  | _ :: _, _ => (0, 6)
theorem cutA_first (c : UInt8) (l : List UInt8) : ∀ cur, ∃ t ts, cutA c cur l = (cur ++ t) :: ts := by
  induction l with
  | nil => intro cur; exact ⟨[], [], by simp [cutA]⟩
  | cons b l ih =>
    intro cur
    rw [cutA]
    split
    · exact ⟨[], _, by rw [List.append_nil]⟩
    · obtain ⟨t, ts, e⟩ := ih (cur ++ [b])
      exact ⟨[b] ++ t, ts, by rw [e, List.append_assoc]⟩
theorem macQ_long {a b c : UInt8} {t : List UInt8} {ts : List (List UInt8)} {m : Int} : macQ ((a :: b :: c :: t) :: ts) m = (0, 6) := by rw [macQ]; simp
theorem macPQ (g : Nat) : ∀ (L : List UInt8) (m : Int), (if (cutA 58 [] L).length = g + 1 then macQ (cutA 58 [] L) m else (0, 6)) = macP g L m := by
  induction g with
  | zero =>
    intro L m
    match L with
    | [] => simp [cutA, macQ, macP]
    | [a] =>
      by_cases ha : a = 58
      · subst ha; simp [cutA, macP]
      · simp [cutA, ha, macQ, macP]
    | [a, b] =>
      by_cases ha : a = 58
      · subst ha
        have := cutA_pos 58 [b] []
        rw [cutA, if_pos rfl, if_neg (by rw [List.length_cons]; omega)]
        simp only [macP, hexv_58]
        rfl
      · by_cases hb : b = 58
        · subst hb
          simp [cutA, ha, macP, hexv_58]
        · simp [cutA, ha, hb, macQ, macP]
    | a :: b :: c :: r =>
      rw [show macP 0 (a :: b :: c :: r) m = (0, 6) from by simp [macP]]
      by_cases ha : a = 58
      · subst ha
        have := cutA_pos 58 (b :: c :: r) []
        rw [cutA, if_pos rfl, if_neg (by rw [List.length_cons]; omega)]
      · by_cases hb : b = 58
        · subst hb
          have := cutA_pos 58 (c :: r) []
          rw [cutA, if_neg ha, cutA, if_pos rfl, if_neg (by rw [List.length_cons]; omega)]
        · by_cases hc : c = 58
          · subst hc
            have := cutA_pos 58 r []
            rw [cutA, if_neg ha, cutA, if_neg hb, cutA, if_pos rfl, if_neg (by rw [List.length_cons]; omega)]
          · rw [cutA, if_neg ha, cutA, if_neg hb, cutA, if_neg hc]
            obtain ⟨t, ts, e⟩ := cutA_first 58 r ([] ++ [a] ++ [b] ++ [c])
            rw [e]
            simp only [List.nil_append, List.cons_append]
            rw [macQ_long, ite_self]
  | succ g ih =>
    intro L m
    match L with
    | [] => simp [cutA, macP]
    | [a] =>
      by_cases ha : a = 58
      · subst ha
        simp [cutA, macQ, macP]
      · simp [cutA, ha, macP]
    | [a, b] =>
      rw [show macP (g + 1) [a, b] m = (0, 6) from by simp [macP]]
      by_cases ha : a = 58
      · subst ha
        rw [cutA, if_pos rfl, show macQ ([] :: cutA 58 [] [b]) m = (0, 6) from by rw [macQ]; simp, ite_self]
      · by_cases hb : b = 58
        · subst hb
          simp [cutA, ha, macQ]
        · simp [cutA, ha, hb]
    | a :: b :: c :: r =>
      rw [macP]
      by_cases ha : a = 58
      · subst ha
        rw [cutA, if_pos rfl, show macQ ([] :: cutA 58 [] (b :: c :: r)) m = (0, 6) from by rw [macQ]; simp, ite_self, if_pos (by decide)]
      · by_cases hb : b = 58
        · subst hb
          rw [cutA, if_neg ha, cutA, if_pos rfl]
          simp only [List.nil_append]
          rw [show macQ ([a] :: cutA 58 [] (c :: r)) m = (0, 6) from by rw [macQ]; simp, ite_self, if_pos (show hexv 58 < 0 by decide), ite_self]
        · by_cases hc : c = 58
          · subst hc
            rw [cutA, if_neg ha, cutA, if_neg hb, cutA, if_pos rfl, if_pos rfl]
            simp only [List.nil_append, List.cons_append, List.length_cons, Nat.add_right_cancel_iff]
            rw [macQ, ← ih r (two a b m)]
            by_cases h1 : hexv a < 0
            · rw [if_pos h1, if_pos h1, ite_self]
            · by_cases h2 : hexv b < 0
              · rw [if_neg h1, if_neg h1, if_pos h2, if_pos h2, ite_self]
              · rw [if_neg h1, if_neg h1, if_neg h2, if_neg h2]
          · rw [cutA, if_neg ha, cutA, if_neg hb, cutA, if_neg hc, if_neg hc]
            obtain ⟨t, ts, e⟩ := cutA_first 58 r ([] ++ [a] ++ [b] ++ [c])
            rw [e]
            simp only [List.nil_append, List.cons_append]
            rw [macQ_long, ite_self, ite_self, ite_self]
theorem or_4 {a b : Int} (ha : 0 ≤ a ∧ a < 281474976710656) (hb : 0 ≤ b ∧ b ≤ 15) : Go.bits .or .i64 (a * 16) b = a * 16 + b :=
  bits_join .i64 63 (by decide) wraps_i64 4 (a * 16) b (by omega) (by omega) (by omega) hb.1 (by omega) (by omega)
theorem rd_BA {ps : List (List UInt8)} {i : Nat} (h : i < ps.length) : rdOf ByteArray.empty (ps.map BA) (i : Int) = BA ps[i] := by
  unfold rdOf
  rw [Int.toNat_natCast, List.getD_eq_getElem?_getD, List.getElem?_eq_getElem (by simpa using h)]
  simp
theorem imac_1 {k : Nat} {P : List ByteArray} {m n i : Int} {xs : List Int} {j : Nat} {b : UInt8} {len : Int} (hm : 0 ≤ m ∧ m < 281474976710656) (hj : (j : Int) < len) (hx : j < xs.length) (hn : xs.length ≤ 1000) (hb : rd xs (j : Int) = (b.toNat : Int)) :
    impl_ReadMac.l1 (k + 1) P m n i xs len (j : Int) = if hexv b < 0 then some (0, 6) else impl_ReadMac.l1 k P (m * 16 + hexv b) n i xs len ((j + 1 : Nat) : Int) := by
  obtain ⟨t, e1, e2, e3⟩ := hex_idx b
  rw [impl_ReadMac.l1, if_pos hj, if_pos (by omega), if_pos (by omega), hb, e1]
  simp only [Option.bind_some]
  by_cases h1 : t < 0
  · rw [if_pos h1] at e2
    rw [if_pos h1, ← e2, if_pos (by decide)]
  · rw [if_neg h1] at e2
    rw [if_neg h1, wr64 (a := m * 16) (by omega), wr64 (a := (j : Int) + 1) (by omega)]
    by_cases h2 : t > 15
    · rw [if_pos h2] at e2
      rw [if_pos h2, ← e2, if_neg (by omega), wr64 (a := t - 6) (by omega), or_4 hm (by omega)]
      rfl
    · rw [if_neg h2] at e2
      rw [if_neg h2, ← e2, if_neg (by omega), or_4 hm (by omega)]
      rfl
theorem two_lt {m x y X : Int} (h0 : 0 ≤ m) (h1 : m < X) (hx : 0 ≤ x ∧ x ≤ 15) (hy : 0 ≤ y ∧ y ≤ 15) : 0 ≤ (m * 16 + x) * 16 + y ∧ (m * 16 + x) * 16 + y < X * 256 := by omega
theorem imac_pair {k : Nat} {P : List ByteArray} {m n i : Int} {a b : UInt8} (hm : 0 ≤ m ∧ m < 1099511627776) :
    impl_ReadMac.l1 (k + 3) P m n i (bytesOf (BA [a, b])) 2 0 = if hexv a < 0 then some (0, 6) else if hexv b < 0 then some (0, 6) else impl_ReadMac.l0 k P (two a b m) n (wrap64 (i + 1)) := by
  have ra : rd (bytesOf (BA [a, b])) ((0 : Nat) : Int) = (a.toNat : Int) := by unfold bytesOf; rw [BA_data]; rfl
  have rb : rd (bytesOf (BA [a, b])) ((1 : Nat) : Int) = (b.toNat : Int) := by unfold bytesOf; rw [BA_data]; rfl
  have hl : (bytesOf (BA [a, b])).length = 2 := by unfold bytesOf; rw [BA_data]; rfl
  have hxa := hexv_in a
  have e1 := imac_1 (k := k + 2) (P := P) (m := m) (n := n) (i := i) (xs := bytesOf (BA [a, b])) (j := 0) (b := a) (len := 2) (by omega) (by omega) (by omega) (by omega) ra
  rw [show ((0 : Nat) : Int) = 0 from rfl] at e1
  rw [show k + 3 = k + 2 + 1 from rfl, e1]
  by_cases h1 : hexv a < 0
  · rw [if_pos h1, if_pos h1]
  · have e2 := imac_1 (k := k + 1) (P := P) (m := m * 16 + hexv a) (n := n) (i := i) (xs := bytesOf (BA [a, b])) (j := 1) (b := b) (len := 2) (by omega) (by omega) (by omega) (by omega) rb
    rw [if_neg h1, if_neg h1, show k + 2 = k + 1 + 1 from rfl, show (0 + 1 : Nat) = 1 from rfl, e2]
    by_cases h2 : hexv b < 0
    · rw [if_pos h2, if_pos h2]
    · rw [if_neg h2, if_neg h2, impl_ReadMac.l1, if_neg (by omega)]
      rfl
theorem imac_l (ps : List (List UInt8)) (hps : ps.length = 6) (d : Nat) : ∀ (k i : Nat) (m : Int), i + d = 6 → 4 * d + 2 < k → 0 ≤ m → m < 256 ^ i → impl_ReadMac.l0 k (ps.map BA) m 6 (i : Int) = some (macQ (ps.drop i) m) := by
  have hpl : ((ps.map BA).length : Int) = 6 := by rw [List.length_map, hps]; rfl
  induction d with
  | zero =>
    intro k i m hi hk h0 h1
    obtain ⟨k, rfl⟩ : ∃ m, k = m + 1 := ⟨k - 1, by omega⟩
    rw [impl_ReadMac.l0, if_neg (by omega), show ps.drop i = [] from List.drop_eq_nil_of_le (by omega), macQ]
  | succ d ih =>
    intro k i m hi hk h0 h1'
    obtain ⟨k, rfl⟩ : ∃ m, k = m + 1 + 1 + 1 + 1 := ⟨k - 4, by omega⟩
    have hlt : i < ps.length := by omega
    have hp : m < 1099511627776 := by
      rcases (show i = 0 ∨ i = 1 ∨ i = 2 ∨ i = 3 ∨ i = 4 ∨ i = 5 by omega) with rfl | rfl | rfl | rfl | rfl | rfl <;> omega
    have hps1 : (256 : Int) ^ (i + 1) = 256 ^ i * 256 := Int.pow_succ ..
    rw [impl_ReadMac.l0, if_pos (by omega), if_pos (by omega), if_pos (by omega), rd_BA hlt, BA_size, List.drop_eq_getElem_cons hlt]
    have hih := ih k (i + 1)
    have hw : wrap64 ((i : Int) + 1) = ((i + 1 : Nat) : Int) := by rw [wr64 (by omega)]; omega
    generalize ps[i] = p at *
    match p with
    | [a, b] =>
      have hl : (bytesOf (BA [a, b])).length = 2 := by unfold bytesOf; rw [BA_data]; rfl
      have hxa := hexv_in a
      have hxb := hexv_in b
      rw [if_pos (by rfl), if_pos (by simp)]
      rw [Option.bind_some, hl]
      rw [macQ, show ((2 : Nat) : Int) = 2 from rfl, imac_pair ⟨h0, hp⟩]
      by_cases h1 : hexv a < 0
      · rw [if_pos h1, if_pos h1]
      · by_cases h2 : hexv b < 0
        · rw [if_neg h1, if_neg h1, if_pos h2, if_pos h2]
        · have h4 := two_lt h0 h1' (x := hexv a) (y := hexv b) (by clear hih; omega) (by clear hih; omega)
          rw [if_neg h1, if_neg h1, if_neg h2, if_neg h2, hw]
          exact hih _ (by omega) (by omega) h4.1 (by rw [hps1]; exact h4.2)
    | [] => rw [if_neg (by decide), macQ]; simp
    | [a] => rw [if_neg (by simp), macQ]; simp
    | a :: b :: c :: t => rw [if_neg (by simp; omega), macQ_long]
theorem smac_hex (s : ByteArray) {k i : Nat} {m : Int} (hi : i < 17) (hm : i % 3 ≠ 2) (hlt : i < s.data.toList.length) (hk : 3 ≤ k) (hb : 0 ≤ m ∧ m < 281474976710656) :
    spec_ReadMac.l0 (k + 1) s m (i : Int) = if hexv s.data.toList[i] < 0 then some (0, 6) else spec_ReadMac.l0 k s (m * 16 + hexv s.data.toList[i]) ((i + 1 : Nat) : Int) := by
  have hsz := Lib.size_eq s
  have hx := hexv_in s.data.toList[i]
  rw [spec_ReadMac.l0, if_pos (by omega), tm_pos _ (by omega), if_neg (by omega), if_pos (by omega), if_pos (by omega), bt_list s hlt, shex_f _ hk]
  simp only [Option.bind_some]
  rw [wr64 (a := m * 16) (by omega), wr64 (a := (i : Int) + 1) (by omega)]
  by_cases h : hexv s.data.toList[i] < 0
  · rw [if_pos h, if_pos h]
  · rw [if_neg h, if_neg h, wr64 (by omega)]
    rfl
theorem smac_colon (s : ByteArray) {k i : Nat} {m : Int} (hi : i < 17) (hm : i % 3 = 2) (hlt : i < s.data.toList.length) :
    spec_ReadMac.l0 (k + 1) s m (i : Int) = if s.data.toList[i] = 58 then spec_ReadMac.l0 k s m ((i + 1 : Nat) : Int) else some (0, 6) := by
  have hsz := Lib.size_eq s
  rw [spec_ReadMac.l0, if_pos (by omega), tm_pos _ (by omega), if_pos (by omega), if_pos (by omega), if_pos (by omega), bt_list s hlt, wr64 (a := (i : Int) + 1) (by omega)]
  by_cases h : s.data.toList[i] = 58
  · rw [if_pos h, if_pos (by rw [h]; rfl)]
    rfl
  · rw [if_neg h, if_neg (fun e => h (UInt8.toNat_inj.1 (by show _ = 58; omega)))]
theorem smac_l (s : ByteArray) (hs : s.data.toList.length = 17) (g : Nat) : ∀ (k i j : Nat) (m : Int), i + 3 * g = 15 → j + g = 5 → 3 * g + 10 < k → 0 ≤ m → m < 256 ^ j → spec_ReadMac.l0 k s m (i : Int) = some (macP g (s.data.toList.drop i) m) := by
  induction g with
  | zero =>
    intro k i j m hi hj hk h0 h1
    obtain ⟨k, rfl⟩ : ∃ m, k = m + 1 + 1 + 1 := ⟨k - 3, by omega⟩
    obtain rfl : i = 15 := by omega
    obtain rfl : j = 5 := by omega
    have e5 : (256 : Int) ^ 5 = 1099511627776 := by decide
    have hxa := hexv_in s.data.toList[15]
    rw [List.drop_eq_getElem_cons (by omega), List.drop_eq_getElem_cons (by omega), show s.data.toList.drop (15 + 1 + 1) = [] from List.drop_eq_nil_of_le (by omega), macP, smac_hex s (by omega) (by omega) (by omega) (by omega) (by omega)]
    by_cases h1 : hexv s.data.toList[15] < 0
    · rw [if_pos h1, if_pos h1]
    · rw [if_neg h1, if_neg h1, smac_hex s (by omega) (by omega) (by omega) (by omega) (by omega)]
      by_cases h2 : hexv s.data.toList[15 + 1] < 0
      · rw [if_pos h2, if_pos h2]
      · rw [if_neg h2, if_neg h2, spec_ReadMac.l0, if_neg (by omega)]
        rfl
  | succ g ih =>
    intro k i j m hi hj hk h0 h1'
    obtain ⟨k, rfl⟩ : ∃ m, k = m + 1 + 1 + 1 := ⟨k - 3, by omega⟩
    have hp : m < 4294967296 := by
      rcases (show j = 0 ∨ j = 1 ∨ j = 2 ∨ j = 3 ∨ j = 4 by omega) with rfl | rfl | rfl | rfl | rfl <;> omega
    have hps1 : (256 : Int) ^ (j + 1) = 256 ^ j * 256 := Int.pow_succ ..
    have hxa := hexv_in s.data.toList[i]
    have hxb := hexv_in s.data.toList[i + 1]
    rw [List.drop_eq_getElem_cons (by omega), List.drop_eq_getElem_cons (by omega), List.drop_eq_getElem_cons (by omega), macP, smac_hex s (by omega) (by omega) (by omega) (by omega) (by omega)]
    by_cases h1 : hexv s.data.toList[i] < 0
    · rw [if_pos h1, if_pos h1]
    · rw [if_neg h1, if_neg h1, smac_hex s (by omega) (by omega) (by omega) (by omega) (by omega)]
      by_cases h2 : hexv s.data.toList[i + 1] < 0
      · rw [if_pos h2, if_pos h2]
      · rw [if_neg h2, if_neg h2, smac_colon s (by omega) (by omega) (by omega)]
        by_cases h3 : s.data.toList[i + 1 + 1] = 58
        · rw [if_pos h3, if_pos h3]
          unfold two
          have h4 := two_lt h0 h1' (x := hexv s.data.toList[i]) (y := hexv s.data.toList[i + 1]) (by omega) (by omega)
          exact ih k (i + 1 + 1 + 1) (j + 1) _ (by omega) (by omega) (by omega) h4.1 (by rw [hps1]; exact h4.2)
        · rw [if_neg h3, if_neg h3]
theorem macP_len (g : Nat) : ∀ (L : List UInt8) (m : Int), L.length ≠ 3 * g + 2 → macP g L m = (0, 6) := by
  induction g with
  | zero =>
    intro L m h
    match L with
    | [] => rfl
    | [a] => rfl
    | [a, b] => exact absurd rfl h
    | a :: b :: c :: r => simp [macP]
  | succ g ih =>
    intro L m h
    match L with
    | [] => rfl
    | [a] => rfl
    | [a, b] => simp [macP]
    | a :: b :: c :: r =>
      rw [macP, ih r _ (by simp only [List.length_cons] at h; omega)]
      simp
theorem readM_f (s : ByteArray) (hs : s.size ≤ 1048576) {k : Nat} (hk : 100 < k) : impl_ReadMac.f k s = some (macP 5 s.data.toList 0) ∧ spec_ReadMac.f k s = some (macP 5 s.data.toList 0) := by
  have hsz := Lib.size_eq s
  constructor
  · unfold impl_ReadMac.f
    rw [show (⟨#[58]⟩ : ByteArray) = BA [58] from rfl, split_f hs, ← macPQ 5 s.data.toList 0]
    simp only [Option.bind_some]
    rw [List.length_map]
    by_cases h : (cutA 58 [] s.data.toList).length = 6
    · rw [h, if_pos (show ((6 : Nat) : Int) = 6 from rfl), if_pos (by decide), show ((6 : Nat) : Int) = 6 from rfl]
      have := imac_l _ h 6 k 0 0 (by omega) (by omega) (by decide) (by decide)
      rw [List.drop_zero] at this
      exact this
    · rw [if_neg (by omega), if_neg (by omega)]
  · unfold spec_ReadMac.f
    by_cases h : s.data.toList.length = 17
    · rw [if_pos (by omega)]
      have := smac_l s h 5 k 0 0 0 (by omega) (by omega) (by omega) (by decide) (by decide)
      rw [List.drop_zero] at this
      exact this
    · rw [if_neg (by omega), macP_len 5 _ _ (by omega)]

/-! ### the law -/
theorem FnExactReadMac : ∀ (a0 : ByteArray), a0.size ≤ maxLen → ∃ k, laws_FnExactReadMac.f k a0 = some true := by
  intro s _
  obtain ⟨k, hk⟩ : ∃ k, k = 101 := ⟨_, rfl⟩
  refine ⟨k, ?_⟩
  unfold laws_FnExactReadMac.f
  by_cases h : (s.size : Int) > 1048576
  · rw [if_pos h]
  · obtain ⟨e1, e2⟩ := readM_f s (by omega) (k := k) (by omega)
    rw [if_neg h, e1, e2]
    simp only [Option.bind_some, if_true]

end Go.Proofs.YtnnplkhjmdbmbaaDoor.Pure
