/- Sequence numbers: a distance further on is that distance further on, its sign is what SeqLess and SeqLeq tell, a window holds just what lies in it, and back is back; without conditions. -/
import Derived.Test.YtobaoffcepmeiaaPFnSeqx2
set_option linter.unusedVariables false
set_option linter.unusedSimpArgs false
namespace Go.Proofs.Ytobaoffcepmeiaa.Pure
open Go.RowKit Go.Proofs.Ytobaoffcepmeiaa.PFnSeq Go.Proofs.YtobaoffcepmeiaaW.PrintWords Go.Proofs.YtobaoffcepmeiaaW.PrintLast

/-! ### base -/
theorem wf64 {a : Int} (h : (Lit.int .i64 a).wf = true) : -9223372036854775808 ≤ a ∧ a ≤ 9223372036854775807 := by
  have h1 : IntKind.i64.min = -9223372036854775808 := by decide
  have h2 : IntKind.i64.max = 9223372036854775807 := by decide
  simp only [Lit.wf, Bool.and_eq_true, decide_eq_true_eq] at h
  omega
theorem tm_pos {a : Int} (n : Int) (h : 0 ≤ a) : Int.tmod a n = a % n := Int.tmod_eq_emod_of_nonneg h
theorem tm_neg {a : Int} (n : Int) (h : a ≤ 0) : Int.tmod a n = -((-a) % n) := by
  have := Int.neg_tmod (-a) n
  rw [Int.neg_neg] at this
  rw [this, Int.tmod_eq_emod_of_nonneg (by omega)]
theorem td_pos {a : Int} (n : Int) (h : 0 ≤ a) : Int.tdiv a n = a / n := Int.tdiv_eq_ediv_of_nonneg h
theorem wr64 {a : Int} (h : -9223372036854775808 ≤ a ∧ a ≤ 9223372036854775807) : wrap64 a = a := by
  unfold wrap64
  omega
theorem dec_eq {p : Prop} [Decidable p] {b : Bool} (h : b = true ↔ p) : some b = some (decide p) := by
  rw [Option.some.injEq, Bool.eq_iff_iff, decide_eq_true_eq]
  exact h
theorem ite_dec (p q : Prop) [Decidable p] [Decidable q] : (if p then some (decide q) else some false) = some (decide (p ∧ q)) := by
  by_cases h : p <;> simp [h]
theorem beq_dec (a b : Int) : (a == b) = decide (a = b) := by
  rw [Bool.eq_iff_iff]
  simp

/-! ### lists -/
theorem rd_at {xs : List Int} {i : Nat} (h : i < xs.length) : rd xs (i : Int) = xs[i] := by
  unfold rd
  rw [Int.toNat_natCast, List.getD_eq_getElem?_getD, List.getElem?_eq_getElem h]
  rfl
theorem wr_succ {i n : Nat} (h : i < n) (hn : n ≤ 281474976710656) : wrap64 ((i : Int) + 1) = ((i + 1 : Nat) : Int) := by
  rw [wr64 (by omega)]
  omega
theorem maxLen_le {n : Nat} (h : n ≤ 1048576) : n ≤ 281474976710656 := by omega

/-! ### drawbase -/
theorem u64_nn (y : Int) : 0 ≤ IntKind.u64.wrap y := by simp [IntKind.wrap, IntKind.bits, IntKind.signed]; omega
theorem u64_id {y : Int} (h : 0 ≤ y ∧ y ≤ 9223372036854775807) : IntKind.u64.wrap y = y := by simp [IntKind.wrap, IntKind.bits, IntKind.signed]; omega
theorem xor_nn (a b : Int) : 0 ≤ Go.bits .xor .u64 a b := by
  show 0 ≤ IntKind.u64.wrap _
  exact u64_nn _
theorem mod_in {x n : Int} (hx : 0 ≤ x) (hn : 0 < n) (h2 : n ≤ 4611686018427387904) : 0 ≤ wrap64 (Int.tmod x n) ∧ wrap64 (Int.tmod x n) < n := by
  have e : Int.tmod x n = x % n := tm_pos n hx
  have h0 := Int.emod_nonneg x (show n ≠ 0 by omega)
  have h1 := Int.emod_lt_of_pos x hn
  rw [e, wr64 (by omega)]
  exact ⟨h0, h1⟩

/-! ### lwdraw -/
theorem lwb_l (l : List Int) (hn : l.length ≤ 1048576) (m : List Int) (p : Int) (d : Nat) : ∀ (k i : Nat) (st : Int), i + d = l.length → d < k → ∃ st', laws_lwBegin.l0 k l (i : Int) m p st = some (p, st') := by
  induction d with
  | zero =>
    intro k i st hi hk
    obtain ⟨k, rfl⟩ : ∃ m, k = m + 1 := ⟨k - 1, by omega⟩
    simp only [laws_lwBegin.l0]
    rw [if_neg (by omega)]
    exact ⟨st, rfl⟩
  | succ d ih =>
    intro k i st hi hk
    obtain ⟨k, rfl⟩ : ∃ m, k = m + 1 := ⟨k - 1, by omega⟩
    simp only [laws_lwBegin.l0]
    rw [if_pos (by omega), if_pos (by omega), wr_succ (n := l.length) (by omega) (by omega)]
    exact ih k (i + 1) _ (by omega) (by omega)
theorem lwb_f {l : List Int} (hn : l.length ≤ 1048576) (a : Int) {k : Nat} (hk : l.length < k) : ∃ st, laws_lwBegin.f k l a = some (0, st) := by
  unfold laws_lwBegin.f
  exact lwb_l l hn l 0 l.length k 0 _ (by omega) hk
theorem lwn_f {l : List Int} (hl : l.length ≤ 1048576) {p : Int} (st : Int) {n : Int} (hp : 0 ≤ p) (hn : 0 < n) (h2 : n ≤ 4611686018427387904) : ∃ r p' st', laws_lwNext.f l p st n = some (r, p', st') ∧ 0 ≤ r ∧ r < n ∧ 0 ≤ p' := by
  unfold laws_lwNext.f
  rw [if_neg (show ¬ n ≤ 0 by omega), u64_id (y := n) (by omega)]
  by_cases h : p < (l.length : Int)
  · rw [if_pos h, if_pos hp, if_neg (show ¬ n = 0 by omega)]
    have := mod_in (xor_nn (IntKind.u64.wrap (IntKind.u64.wrap (st * 6364136223846793005) + 1442695040888963407) / 8589934592) (IntKind.u64.wrap (rd l p))) hn h2
    exact ⟨_, _, _, rfl, this.1, this.2, by rw [wr64 (by omega)]; omega⟩
  · rw [if_neg h, if_neg (show ¬ n = 0 by omega)]
    have hq : 0 ≤ IntKind.u64.wrap (IntKind.u64.wrap (st * 6364136223846793005) + 1442695040888963407) / 8589934592 := by
      have := u64_nn (IntKind.u64.wrap (st * 6364136223846793005) + 1442695040888963407)
      omega
    have := mod_in hq hn h2
    exact ⟨_, _, _, rfl, this.1, this.2, hp⟩

/-! ### l01draw -/
theorem l01b_l (l : List Int) (hn : l.length ≤ 1048576) (m : List Int) (p : Int) (d : Nat) : ∀ (k i : Nat) (st : Int), i + d = l.length → d < k → ∃ st', spec_l01Begin.l0 k l (i : Int) m p st = some (p, st') := by
  induction d with
  | zero =>
    intro k i st hi hk
    obtain ⟨k, rfl⟩ : ∃ m, k = m + 1 := ⟨k - 1, by omega⟩
    simp only [spec_l01Begin.l0]
    rw [if_neg (by omega)]
    exact ⟨st, rfl⟩
  | succ d ih =>
    intro k i st hi hk
    obtain ⟨k, rfl⟩ : ∃ m, k = m + 1 := ⟨k - 1, by omega⟩
    simp only [spec_l01Begin.l0]
    rw [if_pos (by omega), if_pos (by omega), wr_succ (n := l.length) (by omega) (by omega)]
    exact ih k (i + 1) _ (by omega) (by omega)
theorem l01b_f {l : List Int} (hn : l.length ≤ 1048576) {k : Nat} (hk : l.length < k) : ∃ st, spec_l01Begin.f k l = some (0, st) := by
  unfold spec_l01Begin.f
  exact l01b_l l hn l 0 l.length k 0 _ (by omega) hk
theorem l01n_f {l : List Int} (hl : l.length ≤ 1048576) {p : Int} (st : Int) {n : Int} (hp : 0 ≤ p) (hn : 0 < n) (h2 : n ≤ 4611686018427387904) : ∃ r p' st', spec_l01Next.f l p st n = some (r, p', st') ∧ 0 ≤ r ∧ r < n ∧ 0 ≤ p' := by
  unfold spec_l01Next.f
  rw [if_neg (show ¬ n ≤ 0 by omega), u64_id (y := n) (by omega)]
  by_cases h : p < (l.length : Int)
  · rw [if_pos h, if_pos hp, if_neg (show ¬ n = 0 by omega)]
    have := mod_in (xor_nn (IntKind.u64.wrap (IntKind.u64.wrap (st * 6364136223846793005) + 1442695040888963407) / 8589934592) (IntKind.u64.wrap (rd l p))) hn h2
    exact ⟨_, _, _, rfl, this.1, this.2, by rw [wr64 (by omega)]; omega⟩
  · rw [if_neg h, if_neg (show ¬ n = 0 by omega)]
    have hq : 0 ≤ IntKind.u64.wrap (IntKind.u64.wrap (st * 6364136223846793005) + 1442695040888963407) / 8589934592 := by
      have := u64_nn (IntKind.u64.wrap (st * 6364136223846793005) + 1442695040888963407)
      omega
    have := mod_in hq hn h2
    exact ⟨_, _, _, rfl, this.1, this.2, hp⟩

/-! ### the law -/
theorem seqd_f {l : List Int} (hl : l.length ≤ 1048576) {p : Int} (st : Int) (hp : 0 ≤ p) : ∃ r p' st', spec_l01Seq.f l p st = some (r, p', st') ∧ 0 ≤ r ∧ r ≤ 4294967295 ∧ 0 ≤ p' := by
  unfold spec_l01Seq.f
  obtain ⟨x, p1, s1, e, h0, h1, hp1⟩ := l01n_f hl st (n := 4) hp (by omega) (by omega)
  rw [e]
  simp only [Option.bind_some]
  split
  · obtain ⟨y, p2, s2, e, h0, h1, hp2⟩ := l01n_f hl s1 (n := 3000) hp1 (by omega) (by omega)
    rw [e]
    refine ⟨_, _, _, rfl, ?_, ?_, hp2⟩ <;> (simp only [wrap64]; omega)
  · split
    · obtain ⟨y, p2, s2, e, h0, h1, hp2⟩ := l01n_f hl s1 (n := 3000) hp1 (by omega) (by omega)
      rw [e]
      refine ⟨_, _, _, rfl, ?_, ?_, hp2⟩ <;> (simp only; omega)
    · split
      · obtain ⟨y, p2, s2, e, h0, h1, hp2⟩ := l01n_f hl s1 (n := 4) hp1 (by omega) (by omega)
        rw [e]
        refine ⟨_, _, _, rfl, ?_, ?_, hp2⟩ <;> (simp only [wrap64]; omega)
      · obtain ⟨y, p2, s2, e, h0, h1, hp2⟩ := l01n_f hl s1 (n := 2147483648) hp1 (by omega) (by omega)
        rw [e]
        refine ⟨_, _, _, rfl, ?_, ?_, hp2⟩ <;> (simp only [wrap64]; omega)
theorem dseq_f {l : List Int} (hl : l.length ≤ 1048576) {k : Nat} (hk : l.length < k) : ∃ a n, spec_DrawSeqAdd.f k l = some (a, n) ∧ 0 ≤ a ∧ a ≤ 4294967295 := by
  unfold spec_DrawSeqAdd.f
  obtain ⟨st, e⟩ := l01b_f hl hk
  rw [e]
  simp only [Option.bind_some]
  obtain ⟨x, p1, s1, e, _, _, hp1⟩ := seqd_f hl st (p := 0) (by omega)
  rw [e]
  simp only [Option.bind_some]
  obtain ⟨y, p2, s2, e, _, _, hp2⟩ := l01n_f hl s1 (n := 3) hp1 (by omega) (by omega)
  rw [e]
  simp only [Option.bind_some]
  obtain ⟨z, p3, s3, e, h0, h1, _⟩ := seqd_f hl s2 hp2
  rw [e]
  simp only [Option.bind_some]
  split
  · exact ⟨_, _, rfl, h0, h1⟩
  · exact ⟨_, _, rfl, h0, h1⟩
theorem j4_f {a d n w : Int} (ha : 0 ≤ a ∧ a ≤ 4294967295) (hd : -2147483648 ≤ d ∧ d ≤ 2147483647) (hw : w = (if d < 0 then d + 4294967296 else d)) (k : Nat) : laws_FnSeq.j4 (k + 1) a d ((a % 4294967296 + d % 4294967296) % 4294967296) n w = some true := by
  obtain ⟨b, hb⟩ : ∃ b, b = (a % 4294967296 + d % 4294967296) % 4294967296 := ⟨_, rfl⟩
  rw [← hb]
  have hb0 : 0 ≤ b ∧ b < 4294967296 := by omega
  have hm : (b % 4294967296 - a % 4294967296) % 4294967296 = d % 4294967296 := by omega
  have e1 : impl_SeqDiff.f a b = some d := by
    unfold impl_SeqDiff.f
    rw [hm]
    congr 1
    unfold wrap64 wrap32
    omega
  have e2 : impl_InWindow.f b a n = some (decide (w < n)) := by
    unfold impl_InWindow.f
    rw [hm]
    congr 1
    rw [decide_eq_decide, hw]
    split <;> omega
  have e3 : impl_SeqAdd.f b (wrap64 (-d)) = some a := by
    unfold impl_SeqAdd.f
    rw [wr64 (by omega)]
    congr 1
    omega
  simp only [laws_FnSeq.j4, impl_SeqLess.f, impl_SeqLeq.f, e1, e2, e3, Option.bind_some, if_true, beq_self_eq_true]
  rw [if_pos (show b ≥ 0 by omega), decide_eq_true hb0.2]
theorem j0_f {l : List Int} (hl : l.length ≤ 1048576) {a d p : Int} (ha : 0 ≤ a ∧ a ≤ 4294967295) (hd : -2147483648 ≤ d ∧ d ≤ 2147483648) (hp : 0 ≤ p) (st : Int) (k : Nat) : laws_FnSeq.j0 (k + 1 + 1 + 1 + 1 + 1) a d l p st = some true := by
  have h1 : ∀ d, -2147483648 ≤ d ∧ d ≤ 2147483647 → laws_FnSeq.j1 (k + 1 + 1 + 1 + 1) a d l p st = some true := by
    intro d hd
    have h3 : ∀ n, laws_FnSeq.j3 (k + 1 + 1) a d ((a % 4294967296 + d % 4294967296) % 4294967296) n = some true := by
      intro n
      rw [laws_FnSeq.j3]
      split
      · rename_i h
        exact j4_f ha hd (by rw [if_pos h, wr64 (by omega)]) k
      · rename_i h
        exact j4_f ha hd (by rw [if_neg h]) k
    have h2 : ∀ n, laws_FnSeq.j2 (k + 1 + 1 + 1) a d ((a % 4294967296 + d % 4294967296) % 4294967296) n = some true := by
      intro n
      rw [laws_FnSeq.j2]
      split
      · exact h3 _
      · exact h3 _
    rw [laws_FnSeq.j1]
    unfold impl_SeqAdd.f
    simp only [Option.bind_some]
    obtain ⟨x, p1, s1, e, _, _, hp1⟩ := lwn_f hl st (n := 2147483648) hp (by omega) (by omega)
    rw [e]
    simp only [Option.bind_some]
    obtain ⟨y, p2, s2, e, _, _, hp2⟩ := lwn_f hl s1 (n := 3) hp1 (by omega) (by omega)
    rw [e]
    simp only [Option.bind_some]
    split
    · exact h2 _
    · exact h2 _
  rw [laws_FnSeq.j0]
  split
  · exact h1 _ (by omega)
  · exact h1 _ (by omega)
theorem FnSeq : laws_FnSeq.Pure := by
  intro l _ _ _
  by_cases h : (l.length : Int) > 1048576
  · refine ⟨1, ?_⟩
    unfold laws_FnSeq.f
    rw [if_pos h]
  · have hl : l.length ≤ 1048576 := by omega
    obtain ⟨k, hk⟩ : ∃ k, k = l.length + 1 := ⟨_, rfl⟩
    refine ⟨k + 1 + 1 + 1 + 1 + 1, ?_⟩
    unfold laws_FnSeq.f
    rw [if_neg h]
    obtain ⟨st, e⟩ := lwb_f hl 3 (k := k + 1 + 1 + 1 + 1 + 1) (by omega)
    rw [e]
    simp only [Option.bind_some]
    obtain ⟨a, n, e, ha0, ha1⟩ := dseq_f hl (k := k + 1 + 1 + 1 + 1 + 1) (by omega)
    rw [e]
    simp only [Option.bind_some]
    obtain ⟨x, p1, s1, e, hx0, hx1, hp1⟩ := lwn_f hl st (p := 0) (n := 2147483648) (by omega) (by omega) (by omega)
    rw [e]
    simp only [Option.bind_some]
    obtain ⟨y, p2, s2, e, hy0, hy1, hp2⟩ := lwn_f hl s1 (n := 2) hp1 (by omega) (by omega)
    rw [e]
    simp only [Option.bind_some]
    obtain ⟨z, p3, s3, e, hz0, hz1, hp3⟩ := lwn_f hl s2 (n := 4) hp2 (by omega) (by omega)
    rw [e]
    simp only [Option.bind_some]
    split
    · obtain ⟨u, p4, s4, e, hu0, hu1, hp4⟩ := lwn_f hl s3 (n := 9) hp3 (by omega) (by omega)
      rw [e]
      simp only [Option.bind_some]
      exact j0_f hl ⟨ha0, ha1⟩ (by rw [wr64 (by omega)]; omega) hp4 s4 k
    · exact j0_f hl ⟨ha0, ha1⟩ (by rw [wr64 (a := x * 2) (by omega), wr64 (a := x * 2 - 2147483648) (by omega), wr64 (by omega)]; omega) hp3 s3 k

end Go.Proofs.Ytobaoffcepmeiaa.Pure
