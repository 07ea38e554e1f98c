/- The program's SegmentLength returns what the reference's returns, for all arguments; without conditions. -/
import Derived.Test.YtobaoffcepmeiaaPFnExactSegmentLengthx3
set_option linter.unusedVariables false
set_option linter.unusedSimpArgs false
namespace Go.Proofs.Ytobaoffcepmeiaa.Pure
open Go.RowKit Go.Proofs.Ytobaoffcepmeiaa.PFnExactSegmentLength Go.Proofs.YtobaoffcepmeiaaW.PrintWords Go.Proofs.YtobaoffcepmeiaaW.PrintLast

/-! ### base -/
theorem wf64 {a : Int} (h : (Lit.int .i64 a).wf = true) : -9223372036854775808 ≤ a ∧ a ≤ 9223372036854775807 := by
  have h1 : IntKind.i64.min = -9223372036854775808 := by decide
  have h2 : IntKind.i64.max = 9223372036854775807 := by decide
  simp only [Lit.wf, Bool.and_eq_true, decide_eq_true_eq] at h
  omega
theorem tm_pos {a : Int} (n : Int) (h : 0 ≤ a) : Int.tmod a n = a % n := Int.tmod_eq_emod_of_nonneg h
theorem tm_neg {a : Int} (n : Int) (h : a ≤ 0) : Int.tmod a n = -((-a) % n) := by
  have := Int.neg_tmod (-a) n
  rw [Int.neg_neg] at this
  rw [this, Int.tmod_eq_emod_of_nonneg (by omega)]
theorem td_pos {a : Int} (n : Int) (h : 0 ≤ a) : Int.tdiv a n = a / n := Int.tdiv_eq_ediv_of_nonneg h
theorem wr64 {a : Int} (h : -9223372036854775808 ≤ a ∧ a ≤ 9223372036854775807) : wrap64 a = a := by
  unfold wrap64
  omega
theorem dec_eq {p : Prop} [Decidable p] {b : Bool} (h : b = true ↔ p) : some b = some (decide p) := by
  rw [Option.some.injEq, Bool.eq_iff_iff, decide_eq_true_eq]
  exact h
theorem ite_dec (p q : Prop) [Decidable p] [Decidable q] : (if p then some (decide q) else some false) = some (decide (p ∧ q)) := by
  by_cases h : p <;> simp [h]
theorem beq_dec (a b : Int) : (a == b) = decide (a = b) := by
  rw [Bool.eq_iff_iff]
  simp

/-! ### lists -/
theorem rd_at {xs : List Int} {i : Nat} (h : i < xs.length) : rd xs (i : Int) = xs[i] := by
  unfold rd
  rw [Int.toNat_natCast, List.getD_eq_getElem?_getD, List.getElem?_eq_getElem h]
  rfl
theorem wr_succ {i n : Nat} (h : i < n) (hn : n ≤ 281474976710656) : wrap64 ((i : Int) + 1) = ((i + 1 : Nat) : Int) := by
  rw [wr64 (by omega)]
  omega
theorem maxLen_le {n : Nat} (h : n ≤ 1048576) : n ≤ 281474976710656 := by omega

/-! ### tobytes -/
theorem toB_l (x0 : List Int) (hn : x0.length ≤ 281474976710656) (d : Nat) : ∀ (k i : Nat) (x3 : List Int), i + d = x0.length → d < k → x3.length = x0.length → (∀ j, j < i → x3[j]? = x0[j]?) → laws_toByteS.l0 k x0 x3 (i : Int) = some x0 := by
  induction d with
  | zero =>
    intro k i x3 hi hk hl he
    obtain ⟨k, rfl⟩ : ∃ m, k = m + 1 := ⟨k - 1, by omega⟩
    simp only [laws_toByteS.l0]
    rw [if_neg (by omega)]
    congr 1
    apply List.ext_getElem?
    intro j
    by_cases hj : j < i
    · exact he j hj
    · rw [List.getElem?_eq_none (by omega), List.getElem?_eq_none (by omega)]
  | succ d ih =>
    intro k i x3 hi hk hl he
    obtain ⟨k, rfl⟩ : ∃ m, k = m + 1 := ⟨k - 1, by omega⟩
    simp only [laws_toByteS.l0]
    rw [if_pos (by omega), if_pos (by omega), if_pos (by omega), wr_succ (n := x0.length) (by omega) hn]
    refine ih k (i + 1) _ (by omega) (by omega) (by simp [hl]) ?_
    intro j hj
    rw [Int.toNat_natCast]
    by_cases e : j = i
    · subst e
      rw [List.getElem?_set_self (by omega), rd_at (by omega), List.getElem?_eq_getElem (by omega)]
    · rw [List.getElem?_set_ne (by omega)]
      exact he j (by omega)
theorem toB_f {l : List Int} (hn : l.length ≤ 281474976710656) {k : Nat} (hk : l.length < k) : laws_toByteS.f k l = some l := by
  unfold laws_toByteS.f
  rw [if_pos (by omega), if_pos (by simpa using hn), Int.toNat_natCast]
  exact toB_l l hn l.length k 0 _ (by omega) hk (by simp) (fun j hj => absurd hj (by omega))

/-! ### eqbytes -/
theorem eqB_l (x0 x1 : List Int) (hn : x0.length ≤ 281474976710656) (hl : x0.length = x1.length) (d : Nat) : ∀ (k i : Nat), i + d = x0.length → d < k → (∀ j, j < i → x0[j]? = x1[j]?) → laws_eqByteS.l0 k x0 x1 (i : Int) = some (decide (x0 = x1)) := by
  induction d with
  | zero =>
    intro k i hi hk he
    obtain ⟨k, rfl⟩ : ∃ m, k = m + 1 := ⟨k - 1, by omega⟩
    simp only [laws_eqByteS.l0]
    rw [if_neg (by omega)]
    have : x0 = x1 := by
      apply List.ext_getElem?
      intro j
      by_cases hj : j < i
      · exact he j hj
      · rw [List.getElem?_eq_none (by omega), List.getElem?_eq_none (by omega)]
    simp [this]
  | succ d ih =>
    intro k i hi hk he
    obtain ⟨k, rfl⟩ : ∃ m, k = m + 1 := ⟨k - 1, by omega⟩
    simp only [laws_eqByteS.l0]
    rw [if_pos (by omega), if_pos (by omega), if_pos (by omega), wr_succ (n := x0.length) (by omega) hn, rd_at (by omega), rd_at (by omega)]
    by_cases e : x0[i] = x1[i]
    · rw [if_pos e]
      refine ih k (i + 1) (by omega) (by omega) ?_
      intro j hj
      by_cases ej : j = i
      · subst ej
        rw [List.getElem?_eq_getElem (by omega), List.getElem?_eq_getElem (by omega), e]
      · exact he j (by omega)
    · rw [if_neg e]
      have : x0 ≠ x1 := fun h => by
        subst h
        exact e rfl
      simp [this]
theorem eqB_f {l m : List Int} (hn : l.length ≤ 281474976710656) {k : Nat} (hk : l.length < k) : laws_eqByteS.f k l m = some (decide (l = m)) := by
  unfold laws_eqByteS.f
  by_cases h : l.length = m.length
  · rw [if_pos (by omega)]
    exact eqB_l l m hn h l.length k 0 (by omega) hk (fun j hj => absurd hj (by omega))
  · rw [if_neg (by omega)]
    have : l ≠ m := fun e => h (by rw [e])
    simp [this]

/-! ### szbytes -/
theorem szB_f {l : List Int} {a : Int} (ha : 0 ≤ a ∧ a ≤ 1048576) (hl : l.length ≤ 9223372036854775807) : laws_szByteS.f l a = some (if (l.length : Int) > a then -1 else a - (l.length : Int)) := by
  unfold laws_szByteS.f
  rw [wr64 (by omega)]
  by_cases h : (l.length : Int) > a
  · rw [if_pos (by omega), if_pos h]
  · rw [if_neg (by omega), if_neg h]
theorem len_of {l : List Int} (h : l.length ≤ maxLen) : l.length ≤ 9223372036854775807 := by
  unfold maxLen at h
  exact h

/-! ### stretch -/
def cv (x : S165) : S157 := ⟨x.f0, x.f1⟩
theorem toS_l (x0 : List S165) (hn : x0.length ≤ 1048576) (d : Nat) : ∀ (k i : Nat) (x3 : List S157), i + d = x0.length → d < k → x3.length = x0.length → (∀ j, j < i → x3[j]? = (x0.map cv)[j]?) → laws_toStretchS.l0 k x0 x3 (i : Int) = some (x0.map cv) := by
  induction d with
  | zero =>
    intro k i x3 hi hk hl he
    obtain ⟨k, rfl⟩ : ∃ m, k = m + 1 := ⟨k - 1, by omega⟩
    simp only [laws_toStretchS.l0]
    rw [if_neg (by omega)]
    congr 1
    apply List.ext_getElem?
    intro j
    by_cases hj : j < i
    · exact he j hj
    · rw [List.getElem?_eq_none (by omega), List.getElem?_eq_none (by rw [List.length_map]; omega)]
  | succ d ih =>
    intro k i x3 hi hk hl he
    obtain ⟨k, rfl⟩ : ∃ m, k = m + 1 := ⟨k - 1, by omega⟩
    simp only [laws_toStretchS.l0, laws_toStretch.f, Option.bind_some]
    rw [if_pos (by omega), if_pos (by omega), if_pos (by omega), wr_succ (n := x0.length) (by omega) (by omega)]
    refine ih k (i + 1) _ (by omega) (by omega) (by simp [hl]) ?_
    intro j hj
    rw [Int.toNat_natCast]
    by_cases e : j = i
    · subst e
      rw [List.getElem?_set_self (by omega), List.getElem?_map, List.getElem?_eq_getElem (show j < x0.length by omega)]
      unfold rd_T165 cv
      rw [Int.toNat_natCast, List.getD_eq_getElem?_getD, List.getElem?_eq_getElem (show j < x0.length by omega)]
      rfl
    · rw [List.getElem?_set_ne (by omega)]
      exact he j (by omega)
theorem toS_f {l : List S165} (hn : l.length ≤ 1048576) {k : Nat} (hk : l.length < k) : laws_toStretchS.f k l = some (l.map cv) := by
  unfold laws_toStretchS.f
  rw [if_pos (by omega), if_pos (by rw [Int.toNat_natCast]; omega), Int.toNat_natCast]
  exact toS_l l hn l.length k 0 _ (by omega) hk (by simp) (fun j hj => absurd hj (by omega))
theorem eqS_l (x : List S157) (hn : x.length ≤ 1048576) (d : Nat) : ∀ (k i : Nat), i + d = x.length → d < k → laws_eqStretchS.l0 k x x (i : Int) = some true := by
  induction d with
  | zero =>
    intro k i hi hk
    obtain ⟨k, rfl⟩ : ∃ m, k = m + 1 := ⟨k - 1, by omega⟩
    simp only [laws_eqStretchS.l0]
    rw [if_neg (by omega)]
  | succ d ih =>
    intro k i hi hk
    obtain ⟨k, rfl⟩ : ∃ m, k = m + 1 := ⟨k - 1, by omega⟩
    simp only [laws_eqStretchS.l0, laws_eqStretch.f, if_true, Option.bind_some]
    rw [if_pos (by omega), if_pos (by omega), if_pos (by omega), wr_succ (n := x.length) (by omega) (by omega)]
    exact ih k (i + 1) (by omega) (by omega)
theorem eqS_same {l : List S157} (hn : l.length ≤ 1048576) {k : Nat} (hk : l.length < k) : laws_eqStretchS.f k l l = some true := by
  unfold laws_eqStretchS.f
  rw [if_pos rfl]
  exact eqS_l l hn l.length k 0 (by omega) hk
theorem szS_f {l : List S165} {a : Int} (ha : 0 ≤ a ∧ a ≤ 1048576) (hl : l.length ≤ 9223372036854775807) : laws_szStretchS.f l a = some (if (l.length : Int) > a then -1 else a - (l.length : Int)) := by
  unfold laws_szStretchS.f
  rw [wr64 (by omega)]
  by_cases h : (l.length : Int) > a
  · rw [if_pos (by omega), if_pos h]
  · rw [if_neg (by omega), if_neg h]

/-! ### segment -/
theorem toSeg_f (a0 a1 a2 a3 a4 a5 a6 : Int) (b7 : Bool) (a8 : Int) (b9 : Bool) (s : List S165) (p : List Int) {k : Nat} (h : s.length + p.length ≤ 1048576) (hk : s.length + p.length < k) : laws_toSegment.f k a0 a1 a2 a3 a4 a5 a6 b7 a8 b9 s p = some (a0, a1, a2, a3, a4, a5, a6, b7, a8, b9, s.map cv, p) := by
  unfold laws_toSegment.f
  rw [toS_f (by omega) (by omega), toB_f (by omega) (by omega)]
  rfl
theorem eqSeg_same (a0 a1 a2 a3 a4 a5 a6 : Int) (b7 : Bool) (a8 : Int) (b9 : Bool) (s : List S157) (p : List Int) {k : Nat} (h : s.length + p.length ≤ 1048576) (hk : s.length + p.length < k) : laws_eqSegment.f k a0 a1 a2 a3 a4 a5 a6 b7 a8 b9 s p a0 a1 a2 a3 a4 a5 a6 b7 a8 b9 s p = some true := by
  unfold laws_eqSegment.f
  rw [eqS_same (by omega) (by omega), eqB_f (by omega) (by omega)]
  simp
theorem szSeg_f (a0 a1 a2 a3 a4 a5 a6 : Int) (b7 : Bool) (a8 : Int) (b9 : Bool) {s : List S165} {p : List Int} (hs : s.length ≤ 9223372036854775807) (hp : p.length ≤ 9223372036854775807) : ∃ r, laws_szSegment.f a0 a1 a2 a3 a4 a5 a6 b7 a8 b9 s p 1048576 = some r ∧ (r < 0 ∨ s.length + p.length ≤ 1048576) := by
  unfold laws_szSegment.f
  rw [szS_f (by omega) hs]
  simp only [Option.bind_some]
  by_cases h : (s.length : Int) > 1048576
  · exact ⟨_, by rw [if_pos h]; rfl, .inl (by omega)⟩
  · rw [if_neg h, if_neg (by omega), szB_f (by omega) hp]
    simp only [Option.bind_some]
    by_cases h2 : (p.length : Int) > 1048576 - (s.length : Int)
    · exact ⟨_, by rw [if_pos h2]; rfl, .inl (by omega)⟩
    · refine ⟨_, by rw [if_neg h2, if_neg (by omega)], .inr (by omega)⟩

/-! ### the law -/
theorem segLen_same (a0 a1 a2 a3 a4 a5 a6 : Int) (b7 : Bool) (a8 : Int) (b9 : Bool) (s : List S157) (p : List Int) : spec_SegmentLength.f a0 a1 a2 a3 a4 a5 a6 b7 a8 b9 s p = impl_SegmentLength.f a0 a1 a2 a3 a4 a5 a6 b7 a8 b9 s p := by
  unfold spec_SegmentLength.f impl_SegmentLength.f spec_l11Has.f
  simp only [Option.bind_some, bne_iff_ne, ne_eq, ite_not]
theorem segLen_some (a0 a1 a2 a3 a4 a5 a6 : Int) (b7 : Bool) (a8 : Int) (b9 : Bool) (s : List S157) (p : List Int) : ∃ r, impl_SegmentLength.f a0 a1 a2 a3 a4 a5 a6 b7 a8 b9 s p = some r := by
  unfold impl_SegmentLength.f
  repeat' split
  all_goals exact ⟨_, rfl⟩
theorem FnExactSegmentLength (a0 a1 a2 a3 a4 a5 a6 : Int) (b7 : Bool) (a8 : Int) (b9 : Bool) (s : List S165) (p : List Int) (w0 : (Lit.int .i64 a0).wf = true) (w1 : (Lit.int .i64 a1).wf = true) (w2 : (Lit.int .i64 a2).wf = true) (w3 : (Lit.int .i64 a3).wf = true) (w4 : (Lit.int .i64 a4).wf = true) (w5 : (Lit.int .i64 a5).wf = true) (w6 : (Lit.int .i64 a6).wf = true) (w8 : (Lit.int .i64 a8).wf = true)
    (hs : s.length ≤ maxLen) (hsw : ∀ x ∈ s, ((Lit.int .i64 x.f0).wf = true ∧ (Lit.int .i64 x.f1).wf = true)) (hp : p.length ≤ maxLen) (hpw : ∀ x ∈ p, (Lit.int .u8 x).wf = true) : ∃ k, laws_FnExactSegmentLength.f k a0 a1 a2 a3 a4 a5 a6 b7 a8 b9 s p = some true := by
  obtain ⟨r, hr, hc⟩ := szSeg_f a0 a1 a2 a3 a4 a5 a6 b7 a8 b9 (s := s) (p := p) (by unfold maxLen at hs; exact hs) (by unfold maxLen at hp; exact hp)
  obtain ⟨k, hk⟩ : ∃ k, k = s.length + p.length + 1 := ⟨_, rfl⟩
  refine ⟨k, ?_⟩
  unfold laws_FnExactSegmentLength.f
  rw [hr]
  simp only [Option.bind_some]
  rcases hc with hc | hc
  · rw [if_pos hc]
  · by_cases hn : r < 0
    · rw [if_pos hn]
    · rw [if_neg hn, toSeg_f _ _ _ _ _ _ _ _ _ _ s p hc (by omega)]
      simp only [Option.bind_some]
      rw [segLen_same]
      obtain ⟨q, hq⟩ := segLen_some a0 a1 a2 a3 a4 a5 a6 b7 a8 b9 (s.map cv) p
      rw [hq]
      simp only [Option.bind_some, if_true]
      rw [eqSeg_same _ _ _ _ _ _ _ _ _ _ _ _ (by rw [List.length_map]; exact hc) (by rw [List.length_map]; omega)]
      rfl

end Go.Proofs.Ytobaoffcepmeiaa.Pure
