/- The congestion window never exceeds what the rules allow, in a drawn row of acknowledgements, losses, timeouts and rests; without conditions. -/
import Derived.Test.YtdigkdoihfpdgaaPFnWindowx4
set_option linter.unusedVariables false
set_option linter.unusedSimpArgs false
namespace Go.Proofs.Ytdigkdoihfpdgaa.Pure
open Go.RowKit Go.Proofs.Ytdigkdoihfpdgaa.PFnWindow Go.Proofs.YtdigkdoihfpdgaaW.PrintWords Go.Proofs.YtdigkdoihfpdgaaW.PrintLast

/-! ### base -/
theorem wf64 {a : Int} (h : (Lit.int .i64 a).wf = true) : -9223372036854775808 ≤ a ∧ a ≤ 9223372036854775807 := by
  have h1 : IntKind.i64.min = -9223372036854775808 := by decide
  have h2 : IntKind.i64.max = 9223372036854775807 := by decide
  simp only [Lit.wf, Bool.and_eq_true, decide_eq_true_eq] at h
  omega
theorem tm_pos {a : Int} (n : Int) (h : 0 ≤ a) : Int.tmod a n = a % n := Int.tmod_eq_emod_of_nonneg h
theorem tm_neg {a : Int} (n : Int) (h : a ≤ 0) : Int.tmod a n = -((-a) % n) := by
  have := Int.neg_tmod (-a) n
  rw [Int.neg_neg] at this
  rw [this, Int.tmod_eq_emod_of_nonneg (by omega)]
theorem td_pos {a : Int} (n : Int) (h : 0 ≤ a) : Int.tdiv a n = a / n := Int.tdiv_eq_ediv_of_nonneg h
theorem wr64 {a : Int} (h : -9223372036854775808 ≤ a ∧ a ≤ 9223372036854775807) : wrap64 a = a := by
  unfold wrap64
  omega
theorem dec_eq {p : Prop} [Decidable p] {b : Bool} (h : b = true ↔ p) : some b = some (decide p) := by
  rw [Option.some.injEq, Bool.eq_iff_iff, decide_eq_true_eq]
  exact h
theorem ite_dec (p q : Prop) [Decidable p] [Decidable q] : (if p then some (decide q) else some false) = some (decide (p ∧ q)) := by
  by_cases h : p <;> simp [h]
theorem beq_dec (a b : Int) : (a == b) = decide (a = b) := by
  rw [Bool.eq_iff_iff]
  simp

/-! ### lists -/
theorem rd_at {xs : List Int} {i : Nat} (h : i < xs.length) : rd xs (i : Int) = xs[i] := by
  unfold rd
  rw [Int.toNat_natCast, List.getD_eq_getElem?_getD, List.getElem?_eq_getElem h]
  rfl
theorem wr_succ {i n : Nat} (h : i < n) (hn : n ≤ 281474976710656) : wrap64 ((i : Int) + 1) = ((i + 1 : Nat) : Int) := by
  rw [wr64 (by omega)]
  omega
theorem maxLen_le {n : Nat} (h : n ≤ 1048576) : n ≤ 281474976710656 := by omega

/-! ### drawbase -/
theorem u64_nn (y : Int) : 0 ≤ IntKind.u64.wrap y := by simp [IntKind.wrap, IntKind.bits, IntKind.signed]; omega
theorem u64_id {y : Int} (h : 0 ≤ y ∧ y ≤ 9223372036854775807) : IntKind.u64.wrap y = y := by simp [IntKind.wrap, IntKind.bits, IntKind.signed]; omega
theorem xor_nn (a b : Int) : 0 ≤ Go.bits .xor .u64 a b := by
  show 0 ≤ IntKind.u64.wrap _
  exact u64_nn _
theorem mod_in {x n : Int} (hx : 0 ≤ x) (hn : 0 < n) (h2 : n ≤ 4611686018427387904) : 0 ≤ wrap64 (Int.tmod x n) ∧ wrap64 (Int.tmod x n) < n := by
  have e : Int.tmod x n = x % n := tm_pos n hx
  have h0 := Int.emod_nonneg x (show n ≠ 0 by omega)
  have h1 := Int.emod_lt_of_pos x hn
  rw [e, wr64 (by omega)]
  exact ⟨h0, h1⟩

/-! ### lwdraw -/
theorem lwb_l (l : List Int) (hn : l.length ≤ 1048576) (m : List Int) (p : Int) (d : Nat) : ∀ (k i : Nat) (st : Int), i + d = l.length → d < k → ∃ st', laws_lwBegin.l0 k l (i : Int) m p st = some (p, st') := by
  induction d with
  | zero =>
    intro k i st hi hk
    obtain ⟨k, rfl⟩ : ∃ m, k = m + 1 := ⟨k - 1, by omega⟩
    simp only [laws_lwBegin.l0]
    rw [if_neg (by omega)]
    exact ⟨st, rfl⟩
  | succ d ih =>
    intro k i st hi hk
    obtain ⟨k, rfl⟩ : ∃ m, k = m + 1 := ⟨k - 1, by omega⟩
    simp only [laws_lwBegin.l0]
    rw [if_pos (by omega), if_pos (by omega), wr_succ (n := l.length) (by omega) (by omega)]
    exact ih k (i + 1) _ (by omega) (by omega)
theorem lwb_f {l : List Int} (hn : l.length ≤ 1048576) (a : Int) {k : Nat} (hk : l.length < k) : ∃ st, laws_lwBegin.f k l a = some (0, st) := by
  unfold laws_lwBegin.f
  exact lwb_l l hn l 0 l.length k 0 _ (by omega) hk
theorem lwn_f {l : List Int} (hl : l.length ≤ 1048576) {p : Int} (st : Int) {n : Int} (hp : 0 ≤ p) (hn : 0 < n) (h2 : n ≤ 4611686018427387904) : ∃ r p' st', laws_lwNext.f l p st n = some (r, p', st') ∧ 0 ≤ r ∧ r < n ∧ 0 ≤ p' := by
  unfold laws_lwNext.f
  rw [if_neg (show ¬ n ≤ 0 by omega), u64_id (y := n) (by omega)]
  by_cases h : p < (l.length : Int)
  · rw [if_pos h, if_pos hp, if_neg (show ¬ n = 0 by omega)]
    have := mod_in (xor_nn (IntKind.u64.wrap (IntKind.u64.wrap (st * 6364136223846793005) + 1442695040888963407) / 8589934592) (IntKind.u64.wrap (rd l p))) hn h2
    exact ⟨_, _, _, rfl, this.1, this.2, by rw [wr64 (by omega)]; omega⟩
  · rw [if_neg h, if_neg (show ¬ n = 0 by omega)]
    have hq : 0 ≤ IntKind.u64.wrap (IntKind.u64.wrap (st * 6364136223846793005) + 1442695040888963407) / 8589934592 := by
      have := u64_nn (IntKind.u64.wrap (st * 6364136223846793005) + 1442695040888963407)
      omega
    have := mod_in hq hn h2
    exact ⟨_, _, _, rfl, this.1, this.2, hp⟩

/-! ### addr0 -/
theorem in_f (a l h : Int) : spec_l01In.f a l h = some (decide (l ≤ a ∧ a ≤ h)) := by
  unfold spec_l01In.f
  by_cases h1 : a ≥ l
  · rw [if_pos h1]; congr 1; rw [decide_eq_decide]; omega
  · rw [if_neg h1]; congr 1; rw [eq_comm, decide_eq_false_iff_not]; omega

/-! ### congimpl -/
def okC (m c s n : Int) : Prop := (1 ≤ m ∧ m ≤ 65535) ∧ (m ≤ c ∧ c ≤ 1073741824) ∧ (2 * m ≤ s ∧ s ≤ 1073741824) ∧ (0 ≤ n ∧ n < c)
instance (m c s n : Int) : Decidable (okC m c s n) := by unfold okC; exact inferInstance
theorem okC_impl (m c s n : Int) : impl_okCong.f m c s n = some (decide (okC m c s n)) := by
  unfold impl_okCong.f
  by_cases h1 : 1 ≤ m ∧ m ≤ 65535
  · rw [wr64 (a := 2 * m) (by omega)]
    repeat' split
    all_goals (apply dec_eq; unfold okC; first | (simp only [Bool.false_eq_true, false_iff]; omega) | (rw [decide_eq_true_eq]; omega))
  · by_cases h2 : m ≥ 1
    · rw [if_pos h2, if_neg (by omega)]
      apply dec_eq
      unfold okC
      simp only [Bool.false_eq_true, false_iff]
      omega
    · rw [if_neg h2]
      apply dec_eq
      unfold okC
      simp only [Bool.false_eq_true, false_iff]
      omega

/-! ### cmin -/
theorem min_f (a b : Int) : spec_l14Min.f a b = some (mn a b) := by
  unfold spec_l14Min.f mn
  repeat' split
  all_goals first | rfl | (congr 1; omega)

/-! ### cmax -/
theorem max_f (a b : Int) : spec_l14Max.f a b = some (mx a b) := by
  unfold spec_l14Max.f mx
  repeat' split
  all_goals first | rfl | (congr 1; omega)

/-! ### congf -/
def win0 (m : Int) : Int := mn (4 * m) (mx 4380 (2 * m))
theorem ncI {m : Int} (h : 1 ≤ m ∧ m ≤ 65535) : impl_NewCong.f m = some (m, win0 m, 1073741824, 0, 0) := by
  unfold impl_NewCong.f win0
  rw [if_neg (by omega), if_neg (by omega), wr64 (a := 4 * m) (by omega), wr64 (a := 2 * m) (by omega)]
theorem ncS {m : Int} (h : 1 ≤ m ∧ m ≤ 65535) : spec_NewCong.f m = some (m, win0 m, 1073741824, 0, 0) := by
  unfold spec_NewCong.f win0
  simp only [in_f, max_f, min_f, Option.bind_some]
  rw [decide_eq_true h, if_pos rfl, wr64 (a := 4 * m) (by omega), wr64 (a := 2 * m) (by omega)]
theorem win0_in {m : Int} (h : 1 ≤ m ∧ m ≤ 65535) : m ≤ win0 m ∧ win0 m ≤ 262140 := by
  unfold win0 mn mx
  repeat' split
  all_goals omega
def half (m x : Int) : Int := mx (x / 2) (2 * m)
theorem half_in {m x : Int} (h : 1 ≤ m ∧ m ≤ 65535) (hx : 0 ≤ x ∧ x ≤ 1073741824) : 2 * m ≤ half m x ∧ half m x ≤ 536870912 := by
  unfold half mx
  split <;> omega
theorem lossI {m c s n x : Int} (h : okC m c s n) (hx : 0 ≤ x ∧ x ≤ 1073741824) (k : Nat) : impl_CongLoss.f (k + 1) m c s n x = some (m, half m x, half m x, 0, 0) := by
  have h' := h
  unfold okC at h'
  unfold impl_CongLoss.f half
  rw [okC_impl, decide_eq_true h, Option.bind_some, if_pos rfl, if_neg (by omega), decide_eq_false (show ¬ x > 1073741824 by omega), impl_CongLoss.j0, if_neg (by simp), td_pos _ hx.1, wr64 (a := x / 2) (by omega), wr64 (a := 2 * m) (by omega)]
theorem timeI {m c s n x : Int} (h : okC m c s n) (hx : 0 ≤ x ∧ x ≤ 1073741824) (k : Nat) : impl_CongTimeout.f (k + 1) m c s n x = some (m, m, half m x, 0, 0) := by
  unfold impl_CongTimeout.f
  rw [lossI h hx, Option.bind_some, if_pos rfl]
theorem idleI {m c s n : Int} (h : okC m c s n) : impl_CongIdle.f m c s n = some (m, mn c (win0 m), s, 0, 0) := by
  have h' := h
  unfold okC at h'
  unfold impl_CongIdle.f
  rw [okC_impl, decide_eq_true h, Option.bind_some, if_pos rfl, ncI h'.1, Option.bind_some]
theorem ackI {m c s n x : Int} (h : okC m c s n) (hx : 1 ≤ x ∧ x ≤ 1073741824) (k : Nat) : impl_CongAck.f (k + 1) m c s n x = some (if c < s then (m, mn (c + mn x m) 1073741824, s, n, 0) else if n + x ≥ c then (m, mn (c + m) 1073741824, s, 0, 0) else (m, c, s, n + x, 0)) := by
  have h' := h
  unfold okC at h'
  have hm : 0 ≤ mn x m ∧ mn x m ≤ 65535 := by
    unfold mn
    split <;> omega
  unfold impl_CongAck.f
  rw [okC_impl, decide_eq_true h, Option.bind_some, if_pos rfl, if_neg (by omega), impl_CongAck.j0, if_neg (by simp; omega), wr64 (a := c + mn x m) (by omega), wr64 (a := n + x) (by omega), wr64 (a := c + m) (by omega)]
  have e : mn c 1073741824 = c := by
    unfold mn
    rw [if_neg (by omega)]
  rw [e]
  by_cases h1 : c < s
  · rw [if_pos h1, if_pos h1]
  · rw [if_neg h1, if_neg h1]
    by_cases h2 : n + x ≥ c
    · rw [if_pos h2, if_pos h2]
    · rw [if_neg h2, if_neg h2]

/-! ### the law -/
theorem ack_st {m c s n x : Int} (h : okC m c s n) (hx : 1 ≤ x ∧ x ≤ 1073741824) (k : Nat) : ∃ c' n', impl_CongAck.f (k + 1) m c s n x = some (m, c', s, n', 0) ∧ okC m c' s n' ∧ c ≤ c' ∧ c' ≤ c + m ∧ (c < s → c' ≤ c + x) ∧ c' + n' ≤ c + n + x := by
  rw [ackI h hx]
  have h' := h
  unfold okC at h'
  have hm : 1 ≤ mn x m ∧ mn x m ≤ m ∧ mn x m ≤ x := by
    unfold mn
    split <;> omega
  by_cases h1 : c < s
  · rw [if_pos h1]
    have hc : c ≤ mn (c + mn x m) 1073741824 ∧ mn (c + mn x m) 1073741824 ≤ c + mn x m ∧ mn (c + mn x m) 1073741824 ≤ 1073741824 := by
      generalize mn x m = y at *
      unfold mn
      split <;> omega
    refine ⟨_, _, rfl, ?_, hc.1, by omega, fun _ => by omega, by omega⟩
    unfold okC
    omega
  · rw [if_neg h1]
    by_cases h2 : n + x ≥ c
    · rw [if_pos h2]
      have hc : c ≤ mn (c + m) 1073741824 ∧ mn (c + m) 1073741824 ≤ c + m ∧ mn (c + m) 1073741824 ≤ 1073741824 := by
        unfold mn
        split <;> omega
      refine ⟨_, _, rfl, ?_, hc.1, by omega, fun h => absurd h h1, by omega⟩
      unfold okC
      omega
    · rw [if_neg h2]
      refine ⟨_, _, rfl, ?_, by omega, by omega, fun h => absurd h h1, by omega⟩
      unfold okC
      omega
theorem tail_f {m c s n a bs b : Int} (l : List Int) (p st : Int) (d : Nat) (k : Nat) (hd : d ≤ 1000) (h1 : m ≤ c) (h2 : c ≤ bs + a) (h3 : 0 ≤ a ∧ a ≤ 1000000) (h4 : 0 ≤ bs ∧ bs ≤ 1073741824) : laws_FnWindow.j4 (k + 1 + 1) m 0 b a bs ((d + 1 : Nat) : Int) l p st m c s n = laws_FnWindow.l0 k m b a bs (d : Int) l p st m c s n := by
  have e1 : wrap64 (((d + 1 : Nat) : Int) - 1) = (d : Int) := by rw [wr64 (by omega)]; omega
  rw [laws_FnWindow.j4, if_pos rfl, if_neg (show ¬ c < m by omega), if_pos rfl, wr64 (a := bs + a) (by omega), decide_eq_false (show ¬ c > bs + a by omega), laws_FnWindow.j5, if_neg (by simp), e1]
theorem win_l {l : List Int} (hl : l.length ≤ 1048576) {m : Int} (hm : 1 ≤ m ∧ m ≤ 3000) (d : Nat) : ∀ (k : Nat) (a bs p st c s n : Int), 5 * d + 2 ≤ k → 0 ≤ p → okC m c s n → 0 ≤ a → a + 6001 * (d : Int) ≤ 300000 → m ≤ bs ∧ bs ≤ 1073741824 → c + n ≤ bs + a → laws_FnWindow.l0 k m (win0 m) a bs (d : Int) l p st m c s n = some true := by
  induction d with
  | zero =>
    intro k a bs p st c s n hk hp ho ha hd hb hc
    obtain ⟨k, rfl⟩ : ∃ q, k = q + 1 := ⟨k - 1, by omega⟩
    rw [laws_FnWindow.l0, if_neg (by omega)]
  | succ d ih =>
    intro k a bs p st c s n hk hp ho ha hd hb hc
    obtain ⟨k, rfl⟩ : ∃ q, k = q + 1 + 1 + 1 + 1 + 1 := ⟨k - 5, by omega⟩
    have ho' := ho
    unfold okC at ho'
    have hw := win0_in (m := m) (by omega)
    rw [laws_FnWindow.l0, if_pos (by omega)]
    obtain ⟨x, p1, s1, e, hx0, hx1, hp1⟩ := lwn_f hl st (n := 100000) hp (by omega) (by omega)
    rw [e]
    simp only [Option.bind_some]
    rw [td_pos _ hx0, wr64 (a := x / 2) (by omega), wr64 (a := 2 * m) (by omega)]
    have hh := half_in (m := m) (x := x) (by omega) (by omega)
    have key : ∀ hv, hv = half m x → laws_FnWindow.j2 (k + 1 + 1 + 1 + 1) m (win0 m) a bs ((d + 1 : Nat) : Int) x hv l p1 s1 m c s n m c s n = some true := by
      intro hv hhv
      rw [laws_FnWindow.j2, wr64 (a := 2 * m) (by omega)]
      obtain ⟨y, p2, s2, e, hy0, hy1, hp2⟩ := lwn_f hl s1 (n := 2 * m) hp1 (by omega) (by omega)
      rw [e]
      simp only [Option.bind_some]
      obtain ⟨z, p3, s3, e, hz0, hz1, hp3⟩ := lwn_f hl s2 (n := 8) hp2 (by omega) (by omega)
      rw [e]
      simp only [Option.bind_some]
      by_cases z0 : z = 0
      · rw [if_pos z0, lossI ho (by omega)]
        simp only [Option.bind_some]
        rw [if_pos hhv.symm, if_pos hhv.symm, ← hhv, tail_f l p3 s3 d (k + 1) (by omega) (by omega) (by omega) (by omega) (by omega)]
        exact ih _ 0 hv p3 s3 hv hv 0 (by omega) hp3 (by unfold okC; omega) (by omega) (by omega) (by omega) (by omega)
      · rw [if_neg z0]
        by_cases z1 : z = 1
        · rw [if_pos z1, timeI ho (by omega)]
          simp only [Option.bind_some]
          rw [if_pos True.intro, if_pos hhv.symm, ← hhv, tail_f l p3 s3 d (k + 1) (by omega) (by omega) (by omega) (by omega) (by omega)]
          exact ih _ 0 m p3 s3 m hv 0 (by omega) hp3 (by unfold okC; omega) (by omega) (by omega) (by omega) (by omega)
        · rw [if_neg z1]
          by_cases z2 : z = 2
          · have hc2 : m ≤ mn c (win0 m) ∧ mn c (win0 m) ≤ c ∧ mn c (win0 m) ≤ win0 m := by
              unfold mn
              split <;> omega
            rw [if_pos z2, idleI ho]
            simp only [Option.bind_some]
            generalize mn c (win0 m) = c2 at hc2 ⊢
            rw [if_neg (show ¬ c2 > c by omega), if_neg (show ¬ c2 > win0 m by omega), tail_f l p3 s3 d (k + 1) (by omega) (by omega) (by omega) (by omega) (by omega)]
            exact ih _ 0 c2 p3 s3 c2 s 0 (by omega) hp3 (by unfold okC; omega) (by omega) (by omega) (by omega) (by omega)
          · rw [if_neg z2, wr64 (a := 1 + y) (by omega)]
            obtain ⟨c2, n2, e, ho2, h1, h2, h3, h4⟩ := ack_st ho (x := 1 + y) (by omega) (k + 1 + 1)
            have ho2' := ho2
            unfold okC at ho2'
            rw [e]
            simp only [Option.bind_some]
            rw [if_neg (show ¬ c2 < c by omega), wr64 (a := c + m) (by omega), show decide (c2 > c + m) = false from decide_eq_false (by omega), wr64 (a := a + (1 + y)) (by omega), laws_FnWindow.j3, if_neg (by simp), wr64 (a := c + (1 + y)) (by omega)]
            have fin : laws_FnWindow.j4 (k + 1 + 1) m 0 (win0 m) (a + (1 + y)) bs ((d + 1 : Nat) : Int) l p3 s3 m c2 s n2 = some true := by
              rw [tail_f l p3 s3 d k (by omega) (by omega) (by omega) (by omega) (by omega)]
              exact ih _ (a + (1 + y)) bs p3 s3 c2 s n2 (by omega) hp3 ho2 (by omega) (by omega) hb (by omega)
            by_cases h5 : c < s
            · rw [if_pos h5, if_neg (show ¬ c2 > c + (1 + y) by have := h3 h5; omega)]
              exact fin
            · rw [if_neg h5]
              exact fin
    unfold half at key
    by_cases hx2 : x / 2 < 2 * m
    · rw [if_pos hx2]
      exact key _ (by unfold mx; rw [if_pos hx2])
    · rw [if_neg hx2]
      exact key _ (by unfold mx; rw [if_neg hx2])
theorem FnWindow : laws_FnWindow.Pure := by
  intro l _ _ _
  by_cases h : (l.length : Int) > 1048576
  · refine ⟨1, ?_⟩
    unfold laws_FnWindow.f
    rw [if_pos h]
  · have hl : l.length ≤ 1048576 := by omega
    obtain ⟨k, hk⟩ : ∃ k, k = l.length + 300 := ⟨_, rfl⟩
    refine ⟨k + 1, ?_⟩
    unfold laws_FnWindow.f
    rw [if_neg h]
    obtain ⟨st, e⟩ := lwb_f hl 12 (k := k + 1) (by omega)
    rw [e]
    simp only [Option.bind_some]
    obtain ⟨x, p1, s1, e, hx0, hx1, hp1⟩ := lwn_f hl st (p := 0) (n := 3000) (by omega) (by omega) (by omega)
    rw [e]
    simp only [Option.bind_some]
    rw [wr64 (a := 1 + x) (by omega), ncI (m := 1 + x) (by omega), ncS (m := 1 + x) (by omega)]
    have hw := win0_in (m := 1 + x) (by omega)
    simp only [Option.bind_some, if_true, beq_self_eq_true, Bool.not_true, Bool.or_false]
    rw [laws_FnWindow.j0, if_neg (by simp)]
    obtain ⟨i, p2, s2, e, hi0, hi1, hp2⟩ := lwn_f hl s1 (n := 40) hp1 (by omega) (by omega)
    rw [e]
    simp only [Option.bind_some]
    rw [wr64 (a := i + 1) (by omega), show i + 1 = (((i + 1).toNat : Nat) : Int) from by omega]
    exact win_l hl (by omega) (i + 1).toNat k 0 _ p2 s2 _ _ 0 (by omega) hp2 (by unfold okC; omega) (by omega) (by omega) (by omega) (by omega)

end Go.Proofs.Ytdigkdoihfpdgaa.Pure
