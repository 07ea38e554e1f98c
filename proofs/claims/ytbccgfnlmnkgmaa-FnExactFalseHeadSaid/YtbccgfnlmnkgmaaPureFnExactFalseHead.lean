/- FalseHead of the program returns what FalseHead of the reference returns, for all arguments, and its answer owns its memory; without conditions. -/
import Derived.Test.YtbccgfnlmnkgmaaPFnExactFalseHeadx2
set_option linter.unusedVariables false
set_option linter.unusedSimpArgs false
namespace Go.Proofs.Ytbccgfnlmnkgmaa.Pure
open Go.RowKit Go.Proofs.Ytbccgfnlmnkgmaa.PFnExactFalseHead Go.Proofs.YtbccgfnlmnkgmaaW.PrintWords Go.Proofs.YtbccgfnlmnkgmaaW.PrintLast

/-! ### base -/
theorem wf64 {a : Int} (h : (Lit.int .i64 a).wf = true) : -9223372036854775808 ≤ a ∧ a ≤ 9223372036854775807 := by
  have h1 : IntKind.i64.min = -9223372036854775808 := by decide
  have h2 : IntKind.i64.max = 9223372036854775807 := by decide
  simp only [Lit.wf, Bool.and_eq_true, decide_eq_true_eq] at h
  omega
theorem tm_pos {a : Int} (n : Int) (h : 0 ≤ a) : Int.tmod a n = a % n := Int.tmod_eq_emod_of_nonneg h
theorem tm_neg {a : Int} (n : Int) (h : a ≤ 0) : Int.tmod a n = -((-a) % n) := by
  have := Int.neg_tmod (-a) n
  rw [Int.neg_neg] at this
  rw [this, Int.tmod_eq_emod_of_nonneg (by omega)]
theorem td_pos {a : Int} (n : Int) (h : 0 ≤ a) : Int.tdiv a n = a / n := Int.tdiv_eq_ediv_of_nonneg h
theorem wr64 {a : Int} (h : -9223372036854775808 ≤ a ∧ a ≤ 9223372036854775807) : wrap64 a = a := by
  unfold wrap64
  omega
theorem dec_eq {p : Prop} [Decidable p] {b : Bool} (h : b = true ↔ p) : some b = some (decide p) := by
  rw [Option.some.injEq, Bool.eq_iff_iff, decide_eq_true_eq]
  exact h

/-! ### lists -/
theorem rd_at {xs : List Int} {i : Nat} (h : i < xs.length) : rd xs (i : Int) = xs[i] := by
  unfold rd
  rw [Int.toNat_natCast, List.getD_eq_getElem?_getD, List.getElem?_eq_getElem h]
  rfl
theorem wr_succ {i n : Nat} (h : i < n) (hn : n ≤ 281474976710656) : wrap64 ((i : Int) + 1) = ((i + 1 : Nat) : Int) := by
  rw [wr64 (by omega)]
  omega
theorem maxLen_le {n : Nat} (h : n ≤ 1048576) : n ≤ 281474976710656 := by omega

/-! ### eqbytes -/
theorem eqB_l (x0 x1 : List Int) (hn : x0.length ≤ 281474976710656) (hl : x0.length = x1.length) (d : Nat) : ∀ (k i : Nat), i + d = x0.length → d < k → (∀ j, j < i → x0[j]? = x1[j]?) → laws_eqByteS.l0 k x0 x1 (i : Int) = some (decide (x0 = x1)) := by
  induction d with
  | zero =>
    intro k i hi hk he
    obtain ⟨k, rfl⟩ : ∃ m, k = m + 1 := ⟨k - 1, by omega⟩
    simp only [laws_eqByteS.l0]
    rw [if_neg (by omega)]
    have : x0 = x1 := by
      apply List.ext_getElem?
      intro j
      by_cases hj : j < i
      · exact he j hj
      · rw [List.getElem?_eq_none (by omega), List.getElem?_eq_none (by omega)]
    simp [this]
  | succ d ih =>
    intro k i hi hk he
    obtain ⟨k, rfl⟩ : ∃ m, k = m + 1 := ⟨k - 1, by omega⟩
    simp only [laws_eqByteS.l0]
    rw [if_pos (by omega), if_pos (by omega), if_pos (by omega), wr_succ (n := x0.length) (by omega) hn, rd_at (by omega), rd_at (by omega)]
    by_cases e : x0[i] = x1[i]
    · rw [if_pos e]
      refine ih k (i + 1) (by omega) (by omega) ?_
      intro j hj
      by_cases ej : j = i
      · subst ej
        rw [List.getElem?_eq_getElem (by omega), List.getElem?_eq_getElem (by omega), e]
      · exact he j (by omega)
    · rw [if_neg e]
      have : x0 ≠ x1 := fun h => by
        subst h
        exact e rfl
      simp [this]
theorem eqB_f {l m : List Int} (hn : l.length ≤ 281474976710656) {k : Nat} (hk : l.length < k) : laws_eqByteS.f k l m = some (decide (l = m)) := by
  unfold laws_eqByteS.f
  by_cases h : l.length = m.length
  · rw [if_pos (by omega)]
    exact eqB_l l m hn h l.length k 0 (by omega) hk (fun j hj => absurd hj (by omega))
  · rw [if_neg (by omega)]
    have : l ≠ m := fun e => h (by rw [e])
    simp [this]

/-! ### l01copy -/
theorem copy_l (x0 : List Int) (hn : x0.length ≤ 1048576) (d : Nat) : ∀ (k i : Nat), i + d = x0.length → d < k → spec_l01Copy.l0 k x0 (x0.take i) (i : Int) = some x0 := by
  induction d with
  | zero =>
    intro k i hi hk
    obtain ⟨k, rfl⟩ : ∃ m, k = m + 1 := ⟨k - 1, by omega⟩
    simp only [spec_l01Copy.l0]
    rw [if_neg (by omega), List.take_of_length_le (by omega)]
  | succ d ih =>
    intro k i hi hk
    obtain ⟨k, rfl⟩ : ∃ m, k = m + 1 := ⟨k - 1, by omega⟩
    simp only [spec_l01Copy.l0]
    rw [if_pos (by omega), if_pos (by omega), if_pos (by rw [List.length_take]; omega), wr_succ (n := x0.length) (by omega) (by omega), rd_at (by omega), ← List.take_succ_eq_append_getElem (by omega)]
    exact ih k (i + 1) (by omega) (by omega)
theorem copy_f {l : List Int} (hn : l.length ≤ 1048576) {k : Nat} (hk : l.length < k) : spec_l01Copy.f k l = some l := copy_l l hn l.length k 0 (by omega) hk

/-! ### l01join -/
theorem join_l (a x1 : List Int) (ha : a.length ≤ 1048576) (hn : x1.length ≤ 1048576) (d : Nat) : ∀ (k i : Nat), i + d = x1.length → d < k → spec_l01Join.l0 k x1 (a ++ x1.take i) (i : Int) = some (a ++ x1) := by
  induction d with
  | zero =>
    intro k i hi hk
    obtain ⟨k, rfl⟩ : ∃ m, k = m + 1 := ⟨k - 1, by omega⟩
    simp only [spec_l01Join.l0]
    rw [if_neg (by omega), List.take_of_length_le (by omega)]
  | succ d ih =>
    intro k i hi hk
    obtain ⟨k, rfl⟩ : ∃ m, k = m + 1 := ⟨k - 1, by omega⟩
    simp only [spec_l01Join.l0]
    rw [if_pos (by omega), if_pos (by omega), if_pos (by rw [List.length_append, List.length_take]; omega), wr_succ (n := x1.length) (by omega) (by omega), rd_at (by omega), List.append_assoc, ← List.take_succ_eq_append_getElem (by omega)]
    exact ih k (i + 1) (by omega) (by omega)
theorem join_f {a b : List Int} (ha : a.length ≤ 1048576) (hb : b.length ≤ 1048576) {k : Nat} (hk : a.length < k) (hk2 : b.length < k) : spec_l01Join.f k a b = some (a ++ b) := by
  unfold spec_l01Join.f
  rw [copy_f ha hk]
  have := join_l a b ha hb b.length k 0 (by omega) hk2
  simpa using this

/-! ### marks -/
/-- n marks from a number on. -/
def mks (a : Int) : Nat → List Int
  | 0 => []
  | n + 1 => mks a n ++ [(a + n) % 256]
theorem mks_len (a : Int) (n : Nat) : (mks a n).length = n := by
  induction n with
  | zero => rfl
  | succ n ih => simp [mks, ih]
theorem mks_at (a : Int) (n : Nat) : ∀ j, j < n → (mks a n)[j]? = some ((a + j) % 256) := by
  induction n with
  | zero => intro j h; omega
  | succ n ih =>
    intro j h
    unfold mks
    by_cases e : j < n
    · rw [List.getElem?_append_left (by rw [mks_len]; exact e)]
      exact ih j e
    · obtain rfl : j = n := by omega
      rw [List.getElem?_append_right (by rw [mks_len]; exact Nat.le_refl _), mks_len]
      simp
theorem markB_l (n : Nat) (a : Int) (ha : 0 ≤ a ∧ a ≤ 1099511627776) (hn : n ≤ 1099511627776) (d : Nat) : ∀ (k i : Nat) (x0 : List Int), x0.length = n → i + d = n → d < k → (∀ j, j < i → x0[j]? = some ((a + j) % 256)) → laws_markByteS.l0 k x0 (a + i) (i : Int) = some (a + n, mks a n) := by
  induction d with
  | zero =>
    intro k i x0 hl hi hk he
    obtain ⟨k, rfl⟩ : ∃ m, k = m + 1 := ⟨k - 1, by omega⟩
    simp only [laws_markByteS.l0]
    rw [if_neg (by omega)]
    congr 1
    rw [Prod.mk.injEq]
    refine ⟨by omega, ?_⟩
    apply List.ext_getElem?
    intro j
    by_cases hj : j < n
    · rw [he j (by omega), mks_at _ _ _ hj]
    · rw [List.getElem?_eq_none (by omega), List.getElem?_eq_none (by rw [mks_len]; omega)]
  | succ d ih =>
    intro k i x0 hl hi hk he
    obtain ⟨k, rfl⟩ : ∃ m, k = m + 1 := ⟨k - 1, by omega⟩
    simp only [laws_markByteS.l0]
    rw [if_pos (by omega), if_pos (by omega), wr64 (a := (i : Int) + 1) (by omega), wr64 (by omega), show a + (i : Int) + 1 = a + ((i + 1 : Nat) : Int) from by omega, show (i : Int) + 1 = ((i + 1 : Nat) : Int) from by omega, Int.toNat_natCast]
    refine ih k (i + 1) _ (by simp [hl]) (by omega) (by omega) ?_
    intro j hj
    by_cases e : j = i
    · subst e
      rw [List.getElem?_set_self (by omega)]
    · rw [List.getElem?_set_ne (by omega)]
      exact he j (by omega)
theorem markB_f {l : List Int} {a : Int} (ha : 0 ≤ a ∧ a ≤ 1099511627776) (hn : l.length ≤ 1099511627776) {k : Nat} (hk : l.length < k) : laws_markByteS.f k l a = some (a + l.length, mks a l.length) := by
  unfold laws_markByteS.f
  have := markB_l l.length a ha hn l.length k 0 l rfl (by omega) hk (fun j hj => absurd hj (by omega))
  simpa using this
theorem heldB_l (n : Nat) (a : Int) (ha : 0 ≤ a ∧ a ≤ 1099511627776) (hn : n ≤ 1099511627776) (d : Nat) : ∀ (k i : Nat), i + d = n → d < k → laws_heldByteS.l0 k (mks a n) (a + i) (i : Int) = some (a + n) := by
  induction d with
  | zero =>
    intro k i hi hk
    obtain ⟨k, rfl⟩ : ∃ m, k = m + 1 := ⟨k - 1, by omega⟩
    simp only [laws_heldByteS.l0]
    rw [if_neg (by rw [mks_len]; omega)]
    congr 1
    omega
  | succ d ih =>
    intro k i hi hk
    obtain ⟨k, rfl⟩ : ∃ m, k = m + 1 := ⟨k - 1, by omega⟩
    simp only [laws_heldByteS.l0]
    have hr : rd (mks a n) (i : Int) = (a + i) % 256 := by
      unfold rd
      rw [Int.toNat_natCast, List.getD_eq_getElem?_getD, mks_at a n i (by omega)]
      rfl
    rw [if_pos (by rw [mks_len]; omega), if_pos (by omega), if_pos hr, wr64 (a := (i : Int) + 1) (by omega), wr64 (by omega), show a + (i : Int) + 1 = a + ((i + 1 : Nat) : Int) from by omega, show (i : Int) + 1 = ((i + 1 : Nat) : Int) from by omega]
    exact ih k (i + 1) (by omega) (by omega)
theorem heldB_f {n : Nat} {a : Int} (ha : 0 ≤ a ∧ a ≤ 1099511627776) (hn : n ≤ 1099511627776) {k : Nat} (hk : n < k) : laws_heldByteS.f k (mks a n) a = some (a + n) := by
  unfold laws_heldByteS.f
  have := heldB_l n a ha hn n k 0 (by omega) hk
  simpa using this

/-! ### be -/
/-- The low n bytes of a number, the high one first. -/
def be : Nat → Int → List Int
  | 0, _ => []
  | n + 1, v => (v / 2 ^ (8 * n) % 256) :: be n v
theorem be_len (n : Nat) (v : Int) : (be n v).length = n := by
  induction n with
  | zero => rfl
  | succ n ih => simp [be, ih]

/-! ### specput -/
theorem sput_l (v : Int) (n : Nat) : ∀ (k : Nat) (x : List Int), n ≤ 8 → x.length + n ≤ 1048576 → n < k → spec_l03Put.l0 k v x ((n : Int) - 1) = some (x ++ be n v) := by
  induction n with
  | zero =>
    intro k x hn hx hk
    obtain ⟨k, rfl⟩ : ∃ m, k = m + 1 := ⟨k - 1, by omega⟩
    simp only [spec_l03Put.l0]
    rw [if_neg (by omega)]
    simp [be]
  | succ n ih =>
    intro k x hn hx hk
    obtain ⟨k, rfl⟩ : ∃ m, k = m + 1 := ⟨k - 1, by omega⟩
    simp only [spec_l03Put.l0]
    have h8 : IntKind.u64.wrap (wrap64 (8 * (((n + 1 : Nat) : Int) - 1))) = ((8 * n : Nat) : Int) := by
      rw [wr64 (by omega)]
      simp only [IntKind.wrap, IntKind.bits, IntKind.signed]
      simp
      omega
    rw [if_pos (by omega), h8, if_pos (by omega), if_pos (by omega), wr64 (by omega), show ((n + 1 : Nat) : Int) - 1 - 1 = (n : Int) - 1 from by omega]
    rw [ih k _ (by omega) (by simp; omega) (by omega)]
    unfold shr
    rw [show min ((8 * n : Nat) : Int).toNat IntKind.i64.bits = 8 * n from by rw [Int.toNat_natCast]; show min (8 * n) 64 = 8 * n; omega]
    simp [be, List.append_assoc]
theorem sput_f {v : Int} {n : Nat} (hn : n ≤ 8) {k : Nat} (hk : n < k) : spec_l03Put.f k v (n : Int) = some (be n v) := by
  unfold spec_l03Put.f
  rw [wr64 (by omega), sput_l v n k [] hn (by simp; omega) hk]
  rfl

/-! ### implput -/
theorem iput_l (v : Int) (n : Nat) : ∀ (k : Nat) (x : List Int), n ≤ 8 → x.length + n ≤ 1048576 → n < k → impl_put.l0 k x v ((n : Int) - 1) = some (x ++ be n v) := by
  induction n with
  | zero =>
    intro k x hn hx hk
    obtain ⟨k, rfl⟩ : ∃ m, k = m + 1 := ⟨k - 1, by omega⟩
    simp only [impl_put.l0]
    rw [if_neg (by omega)]
    simp [be]
  | succ n ih =>
    intro k x hn hx hk
    obtain ⟨k, rfl⟩ : ∃ m, k = m + 1 := ⟨k - 1, by omega⟩
    simp only [impl_put.l0]
    have h8 : wrap64 (8 * (((n + 1 : Nat) : Int) - 1)) = ((8 * n : Nat) : Int) := by
      rw [wr64 (by omega)]
      omega
    rw [if_pos (by omega), h8, if_pos (by omega), if_pos (by omega), wr64 (by omega), show ((n + 1 : Nat) : Int) - 1 - 1 = (n : Int) - 1 from by omega]
    rw [ih k _ (by omega) (by simp; omega) (by omega)]
    unfold shr
    rw [show min ((8 * n : Nat) : Int).toNat IntKind.u64.bits = 8 * n from by rw [Int.toNat_natCast]; show min (8 * n) 64 = 8 * n; omega]
    have hw : IntKind.u64.wrap v = v % 18446744073709551616 := by simp [IntKind.wrap, IntKind.bits, IntKind.signed]
    have hb : v % 18446744073709551616 / 2 ^ (8 * n) % 256 = v / 2 ^ (8 * n) % 256 := by
      rcases (show n = 0 ∨ n = 1 ∨ n = 2 ∨ n = 3 ∨ n = 4 ∨ n = 5 ∨ n = 6 ∨ n = 7 by omega) with rfl | rfl | rfl | rfl | rfl | rfl | rfl | rfl <;> simp <;> omega
    rw [hw, hb]
    simp [be, List.append_assoc]
theorem iput_f {l : List Int} {v : Int} {n : Nat} (hn : n ≤ 8) (hl : l.length + n ≤ 1048576) {k : Nat} (hk : n < k) : impl_put.f k l (n : Int) v = some (l ++ be n v) := by
  unfold impl_put.f
  rw [wr64 (by omega), iput_l v n k l hn hl hk]

/-! ### the law -/
theorem FnExactFalseHead : laws_FnExactFalseHead.Pure := by
  intro a b c d _ _ _ _
  refine ⟨40, ?_⟩
  have hs : spec_FalseHead.f 40 a b c d = some (be 4 a ++ be 4 b ++ [0, c % 256] ++ be 2 d) := by
    unfold spec_FalseHead.f
    rw [show (4 : Int) = ((4 : Nat) : Int) from rfl, show (2 : Int) = ((2 : Nat) : Int) from rfl, sput_f (by omega) (by omega), sput_f (by omega) (by omega), sput_f (by omega) (by omega)]
    simp only [Option.bind_some]
    rw [join_f (by simp [be_len]) (by simp [be_len]) (by simp [be_len]) (by simp [be_len])]
    simp only [Option.bind_some]
    rw [join_f (by simp [be_len]) (by simp) (by simp [be_len]) (by simp)]
    simp only [Option.bind_some]
    rw [join_f (by simp [be_len]) (by simp [be_len]) (by simp [be_len]) (by simp [be_len])]
    rfl
  have hi : impl_FalseHead.f 40 a b c d = some (be 4 a ++ be 4 b ++ [0, c % 256] ++ be 2 d) := by
    unfold impl_FalseHead.f
    rw [show (4 : Int) = ((4 : Nat) : Int) from rfl, show (2 : Int) = ((2 : Nat) : Int) from rfl, iput_f (by omega) (by simp) (by omega)]
    simp only [Option.bind_some, List.nil_append]
    rw [iput_f (by omega) (by simp [be_len]) (by omega)]
    simp only [Option.bind_some]
    rw [if_pos (by simp [be_len]), iput_f (by omega) (by simp [be_len]) (by omega)]
    rfl
  generalize hr : be 4 a ++ be 4 b ++ [0, c % 256] ++ be 2 d = r at hs hi
  have hl : r.length = 12 := by rw [← hr]; simp [be_len]
  unfold laws_FnExactFalseHead.f
  rw [hs, hi]
  simp only [Option.bind_some]
  rw [eqB_f (by omega) (by omega)]
  simp only [Option.bind_some, decide_true, if_true]
  rw [markB_f (by omega) (by omega) (by omega)]
  simp only [Option.bind_some]
  rw [heldB_f (by omega) (by omega) (by omega)]
  simp only [Option.bind_some]
  have hneg : ¬ ((1 : Int) + (r.length : Int) < 0) := by omega
  simp [hneg]

end Go.Proofs.Ytbccgfnlmnkgmaa.Pure
