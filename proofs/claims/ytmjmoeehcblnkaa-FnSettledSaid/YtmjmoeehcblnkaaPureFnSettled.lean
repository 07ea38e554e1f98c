/- The time to wait follows the round trip: behind a drawn row of samples and doublings and then 200 samples that are all the same, the smoothed time is just that and the deviation is below 4 quarters; without conditions. -/
import Derived.Test.YtmjmoeehcblnkaaPFnSettledx4
set_option linter.unusedVariables false
set_option linter.unusedSimpArgs false
namespace Go.Proofs.Ytmjmoeehcblnkaa.Pure
open Go.RowKit Go.Proofs.Ytmjmoeehcblnkaa.PFnSettled Go.Proofs.YtmjmoeehcblnkaaW.PrintWords Go.Proofs.YtmjmoeehcblnkaaW.PrintLast

/-! ### base -/
theorem wf64 {a : Int} (h : (Lit.int .i64 a).wf = true) : -9223372036854775808 ≤ a ∧ a ≤ 9223372036854775807 := by
  have h1 : IntKind.i64.min = -9223372036854775808 := by decide
  have h2 : IntKind.i64.max = 9223372036854775807 := by decide
  simp only [Lit.wf, Bool.and_eq_true, decide_eq_true_eq] at h
  omega
theorem tm_pos {a : Int} (n : Int) (h : 0 ≤ a) : Int.tmod a n = a % n := Int.tmod_eq_emod_of_nonneg h
theorem tm_neg {a : Int} (n : Int) (h : a ≤ 0) : Int.tmod a n = -((-a) % n) := by
  have := Int.neg_tmod (-a) n
  rw [Int.neg_neg] at this
  rw [this, Int.tmod_eq_emod_of_nonneg (by omega)]
theorem td_pos {a : Int} (n : Int) (h : 0 ≤ a) : Int.tdiv a n = a / n := Int.tdiv_eq_ediv_of_nonneg h
theorem wr64 {a : Int} (h : -9223372036854775808 ≤ a ∧ a ≤ 9223372036854775807) : wrap64 a = a := by
  unfold wrap64
  omega
theorem dec_eq {p : Prop} [Decidable p] {b : Bool} (h : b = true ↔ p) : some b = some (decide p) := by
  rw [Option.some.injEq, Bool.eq_iff_iff, decide_eq_true_eq]
  exact h
theorem ite_dec (p q : Prop) [Decidable p] [Decidable q] : (if p then some (decide q) else some false) = some (decide (p ∧ q)) := by
  by_cases h : p <;> simp [h]
theorem beq_dec (a b : Int) : (a == b) = decide (a = b) := by
  rw [Bool.eq_iff_iff]
  simp

/-! ### lists -/
theorem rd_at {xs : List Int} {i : Nat} (h : i < xs.length) : rd xs (i : Int) = xs[i] := by
  unfold rd
  rw [Int.toNat_natCast, List.getD_eq_getElem?_getD, List.getElem?_eq_getElem h]
  rfl
theorem wr_succ {i n : Nat} (h : i < n) (hn : n ≤ 281474976710656) : wrap64 ((i : Int) + 1) = ((i + 1 : Nat) : Int) := by
  rw [wr64 (by omega)]
  omega
theorem maxLen_le {n : Nat} (h : n ≤ 1048576) : n ≤ 281474976710656 := by omega

/-! ### lwdraw -/
theorem u64_nn (y : Int) : 0 ≤ IntKind.u64.wrap y := by simp [IntKind.wrap, IntKind.bits, IntKind.signed]; omega
theorem u64_id {y : Int} (h : 0 ≤ y ∧ y ≤ 9223372036854775807) : IntKind.u64.wrap y = y := by simp [IntKind.wrap, IntKind.bits, IntKind.signed]; omega
theorem xor_nn (a b : Int) : 0 ≤ Go.bits .xor .u64 a b := by
  show 0 ≤ IntKind.u64.wrap _
  exact u64_nn _
theorem lwb_l (l : List Int) (hn : l.length ≤ 1048576) (m : List Int) (p : Int) (d : Nat) : ∀ (k i : Nat) (st : Int), i + d = l.length → d < k → ∃ st', laws_lwBegin.l0 k l (i : Int) m p st = some (p, st') := by
  induction d with
  | zero =>
    intro k i st hi hk
    obtain ⟨k, rfl⟩ : ∃ m, k = m + 1 := ⟨k - 1, by omega⟩
    simp only [laws_lwBegin.l0]
    rw [if_neg (by omega)]
    exact ⟨st, rfl⟩
  | succ d ih =>
    intro k i st hi hk
    obtain ⟨k, rfl⟩ : ∃ m, k = m + 1 := ⟨k - 1, by omega⟩
    simp only [laws_lwBegin.l0]
    rw [if_pos (by omega), if_pos (by omega), wr_succ (n := l.length) (by omega) (by omega)]
    exact ih k (i + 1) _ (by omega) (by omega)
theorem lwb_f {l : List Int} (hn : l.length ≤ 1048576) (a : Int) {k : Nat} (hk : l.length < k) : ∃ st, laws_lwBegin.f k l a = some (0, st) := by
  unfold laws_lwBegin.f
  exact lwb_l l hn l 0 l.length k 0 _ (by omega) hk
theorem mod_in {x n : Int} (hx : 0 ≤ x) (hn : 0 < n) (h2 : n ≤ 4611686018427387904) : 0 ≤ wrap64 (Int.tmod x n) ∧ wrap64 (Int.tmod x n) < n := by
  have e : Int.tmod x n = x % n := tm_pos n hx
  have h0 := Int.emod_nonneg x (show n ≠ 0 by omega)
  have h1 := Int.emod_lt_of_pos x hn
  rw [e, wr64 (by omega)]
  exact ⟨h0, h1⟩
theorem lwn_f {l : List Int} (hl : l.length ≤ 1048576) {p : Int} (st : Int) {n : Int} (hp : 0 ≤ p) (hn : 0 < n) (h2 : n ≤ 4611686018427387904) : ∃ r p' st', laws_lwNext.f l p st n = some (r, p', st') ∧ 0 ≤ r ∧ r < n ∧ 0 ≤ p' := by
  unfold laws_lwNext.f
  rw [if_neg (show ¬ n ≤ 0 by omega), u64_id (y := n) (by omega)]
  by_cases h : p < (l.length : Int)
  · rw [if_pos h, if_pos hp, if_neg (show ¬ n = 0 by omega)]
    have := mod_in (xor_nn (IntKind.u64.wrap (IntKind.u64.wrap (st * 6364136223846793005) + 1442695040888963407) / 8589934592) (IntKind.u64.wrap (rd l p))) hn h2
    exact ⟨_, _, _, rfl, this.1, this.2, by rw [wr64 (by omega)]; omega⟩
  · rw [if_neg h, if_neg (show ¬ n = 0 by omega)]
    have hq : 0 ≤ IntKind.u64.wrap (IntKind.u64.wrap (st * 6364136223846793005) + 1442695040888963407) / 8589934592 := by
      have := u64_nn (IntKind.u64.wrap (st * 6364136223846793005) + 1442695040888963407)
      omega
    have := mod_in hq hn h2
    exact ⟨_, _, _, rfl, this.1, this.2, hp⟩

/-! ### the law -/
def okR (s v t : Int) (b : Bool) : Prop := (0 ≤ s ∧ s ≤ 8000000) ∧ (0 ≤ v ∧ v ≤ 4000000) ∧ (200 ≤ t ∧ t ≤ 60000) ∧ (b = true ∨ s = 0 ∧ v = 0)
instance (s v t : Int) (b : Bool) : Decidable (okR s v t b) := by unfold okR; exact inferInstance
theorem okR_impl (s v t : Int) (b : Bool) : impl_okRto.f s v t b = some (decide (okR s v t b)) := by
  unfold impl_okRto.f
  repeat' split
  all_goals (apply dec_eq; unfold okR; cases b <;> simp_all <;> omega)
def sS (s : Int) (b : Bool) (x : Int) : Int := if b = true then s + (x - s / 8) else 8 * x
def sV (s v : Int) (b : Bool) (x : Int) : Int := if b = true then v - v / 4 + (if x - s / 8 < 0 then -(x - s / 8) else x - s / 8) else 2 * x
def rt (s v : Int) : Int := mn (mx (s / 8 + (if v = 0 then 1 else v)) 200) 60000
theorem samp_f {s v t : Int} {b : Bool} {x : Int} (h : okR s v t b) (h1 : 0 ≤ x ∧ x ≤ 1000000) (k : Nat) : impl_RtoSample.f (k + 1) s v t b x = some (sS s b x, sV s v b x, rt (sS s b x) (sV s v b x), true, 0) := by
  unfold impl_RtoSample.f
  have h' := h
  unfold okR at h'
  simp only [okR_impl, h, decide_true, Option.bind_some, if_true, impl_RtoSample.j0]
  rw [if_neg (show ¬ x < 0 by omega), show decide (x > 1000000) = false from by simp; omega]
  simp only [Bool.false_eq_true, if_false]
  cases b with
  | true =>
    simp only [if_true, sS, sV]
    rw [td_pos (a := s) 8 (by omega), td_pos (a := v) 4 (by omega), wr64 (a := s / 8) (by omega), wr64 (a := v / 4) (by omega), wr64 (a := x - s / 8) (by omega), wr64 (a := s + (x - s / 8)) (by omega), td_pos (a := s + (x - s / 8)) 8 (by omega), wr64 (a := (s + (x - s / 8)) / 8) (by omega)]
    by_cases hx : x - s / 8 < 0
    · simp only [hx, if_true]
      rw [wr64 (a := -(x - s / 8)) (by omega), wr64 (a := -(x - s / 8) - v / 4) (by omega), wr64 (a := v + (-(x - s / 8) - v / 4)) (by omega), show v + (-(x - s / 8) - v / 4) = v - v / 4 + -(x - s / 8) from by omega, wr64 (a := (s + (x - s / 8)) / 8 + 1) (by omega), wr64 (a := (s + (x - s / 8)) / 8 + (v - v / 4 + -(x - s / 8))) (by omega)]
      unfold rt
      split <;> rfl
    · simp only [hx, if_false]
      rw [wr64 (a := x - s / 8 - v / 4) (by omega), wr64 (a := v + (x - s / 8 - v / 4)) (by omega), show v + (x - s / 8 - v / 4) = v - v / 4 + (x - s / 8) from by omega, wr64 (a := (s + (x - s / 8)) / 8 + 1) (by omega), wr64 (a := (s + (x - s / 8)) / 8 + (v - v / 4 + (x - s / 8))) (by omega)]
      unfold rt
      split <;> rfl
  | false =>
    simp only [Bool.false_eq_true, if_false, sS, sV]
    rw [wr64 (a := 8 * x) (by omega), wr64 (a := 2 * x) (by omega), td_pos (a := 8 * x) 8 (by omega), wr64 (a := 8 * x / 8) (by omega), wr64 (a := 8 * x / 8 + 1) (by omega), wr64 (a := 8 * x / 8 + 2 * x) (by omega)]
    unfold rt
    split <;> rfl
def good (s v t : Int) (b : Bool) : Prop := (0 ≤ s ∧ s ≤ 480000) ∧ (0 ≤ v ∧ v ≤ 240000) ∧ (200 ≤ t ∧ t ≤ 60000) ∧ (b = true ∨ s = 0 ∧ v = 0)
theorem good.ok {s v t : Int} {b : Bool} (h : good s v t b) : okR s v t b := by
  unfold good at h
  unfold okR
  refine ⟨by omega, by omega, by omega, h.2.2.2⟩
theorem rt_in (s v : Int) : 200 ≤ rt s v ∧ rt s v ≤ 60000 := by
  unfold rt mn mx
  repeat' split
  all_goals omega
theorem good.samp {s v t : Int} {b : Bool} (h : good s v t b) {x : Int} (hx : 0 ≤ x ∧ x ≤ 60000) : good (sS s b x) (sV s v b x) (rt (sS s b x) (sV s v b x)) true := by
  unfold good at h
  refine ⟨?_, ?_, rt_in _ _, .inl rfl⟩
  · unfold sS
    split <;> omega
  · unfold sV
    repeat' split
    all_goals omega
theorem back_f {s v t : Int} {b : Bool} (h : good s v t b) : impl_RtoBackoff.f s v t b = some (s, v, mn (2 * t) 60000, b, 0) := by
  have h' := h
  unfold good at h'
  unfold impl_RtoBackoff.f
  simp only [okR_impl, h.ok, decide_true, Option.bind_some, if_true]
  rw [wr64 (by omega)]
theorem good.back {s v t : Int} {b : Bool} (h : good s v t b) : good s v (mn (2 * t) 60000) b := by
  unfold good at h
  refine ⟨h.1, h.2.1, ?_, h.2.2.2⟩
  unfold mn
  split <;> omega
/-! the bounds behind n samples -/
def dn : Nat → Nat
  | 0 => 480000
  | n + 1 => dn n - (dn n + 7) / 8
def up : Nat → Nat
  | 0 => 480000
  | n + 1 => up n - up n / 8
def vv : Nat → Nat
  | 0 => 240000
  | n + 1 => vv n - vv n / 4
theorem dn_succ (n : Nat) : dn (n + 1) = dn n - (dn n + 7) / 8 := by rw [dn]
theorem up_succ (n : Nat) : up (n + 1) = up n - up n / 8 := by rw [up]
theorem vv_succ (n : Nat) : vv (n + 1) = vv n - vv n / 4 := by rw [vv]
theorem dn_zero : dn 0 = 480000 := by rw [dn]
theorem up_zero : up 0 = 480000 := by rw [up]
theorem vv_zero : vv 0 = 240000 := by rw [vv]
theorem dn_end (j : Nat) : dn (120 + j) = 0 := by
  induction j with
  | zero => decide +kernel
  | succ j ih => rw [show 120 + (j + 1) = (120 + j) + 1 from by omega, dn_succ, ih]
theorem up_end (j : Nat) : up (120 + j) ≤ 7 := by
  induction j with
  | zero => decide +kernel
  | succ j ih => rw [show 120 + (j + 1) = (120 + j) + 1 from by omega, up_succ]; omega
theorem vv_end : vv 80 ≤ 3 := by decide +kernel
theorem vv_at {i : Nat} (h : i = 80) : vv i ≤ 3 := by rw [h]; exact vv_end
theorem dn_at {i : Nat} (h : 120 ≤ i) : dn i = 0 := by rw [show i = 120 + (i - 120) from by omega]; exact dn_end _
theorem up_at {i : Nat} (h : 120 ≤ i) : up i ≤ 7 := by rw [show i = 120 + (i - 120) from by omega]; exact up_end _
def near (x s v t : Int) (b : Bool) (i : Nat) : Prop := (b = true → -(dn i : Int) ≤ s - 8 * x ∧ (s - 8 * x ≤ 7 ∨ s - 8 * x ≤ (up i : Int))) ∧ v ≤ (vv (i - 120) : Int) ∧ (0 < i → b = true ∧ t = rt s v)
theorem near.step {x s v t : Int} {b : Bool} {i : Nat} (hx : 0 ≤ x ∧ x ≤ 60000) (hg : good s v t b) (h : near x s v t b i) : near x (sS s b x) (sV s v b x) (rt (sS s b x) (sV s v b x)) true (i + 1) := by
  have hg2 := hg.samp hx
  obtain ⟨h1, h2, h3⟩ := h
  refine ⟨fun _ => ?_, ?_, fun _ => ⟨rfl, rfl⟩⟩
  · rw [dn_succ, up_succ]
    unfold sS
    by_cases hb : b = true
    · rw [if_pos hb]
      obtain ⟨h4, h5⟩ := h1 hb
      constructor
      · omega
      · rcases h5 with h5 | h5
        · left; omega
        · right; omega
    · rw [if_neg hb]
      constructor
      · omega
      · left; omega
  · unfold good at hg2 hg
    by_cases hi : i + 1 ≤ 120
    · rw [show i + 1 - 120 = 0 from by omega, vv_zero]
      omega
    · obtain ⟨hb, _⟩ := h3 (by omega)
      obtain ⟨h4, h5⟩ := h1 hb
      have e1 := dn_at (i := i) (by omega)
      have e2 := up_at (i := i) (by omega)
      rw [show i + 1 - 120 = (i - 120) + 1 from by omega, vv_succ]
      unfold sV
      rw [if_pos hb, show x - s / 8 = 0 from by omega]
      simp only [Int.lt_irrefl, if_false]
      omega
theorem clamp_f (n : Int) : laws_lwClamp.f n = some (mn (mx n 200) 60000) := by
  unfold laws_lwClamp.f mn mx
  repeat' split
  all_goals first | rfl | (congr 1; omega)
theorem l1_step {k : Nat} {x : Int} {i : Int} {s v t S V T : Int} {b : Bool} (hi : i < 200) (e : impl_RtoSample.f k s v t b x = some (S, V, T, true, 0)) : laws_FnSettled.l1 (k + 1) x i s v t b = laws_FnSettled.l1 k x (wrap64 (i + 1)) S V T true := by
  rw [laws_FnSettled.l1, if_pos hi, e, Option.bind_some]
  exact if_pos rfl
theorem rounds {x : Int} (hx : 0 ≤ x ∧ x ≤ 60000) (d : Nat) : ∀ (k i : Nat) (s v t : Int) (b : Bool), i + d = 200 → d + 1 < k → good s v t b → near x s v t b i → laws_FnSettled.l1 k x (i : Int) s v t b = some true := by
  induction d with
  | zero =>
    intro k i s v t b hi hk hg h
    obtain ⟨k, rfl⟩ : ∃ m, k = m + 1 := ⟨k - 1, by omega⟩
    have hi : i = 200 := by omega
    obtain ⟨h1, h2, h3⟩ := h
    obtain ⟨hb, ht⟩ := h3 (by omega)
    obtain ⟨h4, h5⟩ := h1 hb
    have e1 := dn_at (i := i) (by omega)
    have e2 := up_at (i := i) (by omega)
    have e3 := vv_at (i := i - 120) (by omega)
    unfold good at hg
    have hs : s / 8 = x := by omega
    have hv : v ≤ 3 := by omega
    simp only [laws_FnSettled.l1]
    rw [if_neg (show ¬ ((i : Int) < 200) by omega), td_pos (a := s) 8 (by omega), wr64 (a := s / 8) (by omega), if_pos hs, if_pos (show v < 4 by omega), wr64 (a := x + 1) (by omega), wr64 (a := x + 3) (by omega), clamp_f, clamp_f]
    simp only [Option.bind_some]
    have g1 : t ≥ mn (mx (x + 1) 200) 60000 := by
      rw [ht]
      unfold rt mn mx
      rw [hs]
      repeat' split
      all_goals omega
    have g2 : t ≤ mn (mx (x + 3) 200) 60000 := by
      rw [ht]
      unfold rt mn mx
      rw [hs]
      repeat' split
      all_goals omega
    rw [if_pos g1, decide_eq_true g2]
  | succ d ih =>
    intro k i s v t b hi hk hg h
    obtain ⟨k, rfl⟩ : ∃ m, k = m + 1 := ⟨k - 1, by omega⟩
    obtain ⟨k, rfl⟩ : ∃ m, k = m + 1 := ⟨k - 1, by omega⟩
    obtain ⟨S, V, T, e, hg', hn'⟩ : ∃ S V T, impl_RtoSample.f (k + 1) s v t b x = some (S, V, T, true, 0) ∧ good S V T true ∧ near x S V T true (i + 1) := ⟨_, _, _, samp_f hg.ok (by omega) k, hg.samp hx, h.step hx hg⟩
    rw [l1_step (by omega) e, wr64 (by omega), show (i : Int) + 1 = ((i + 1 : Nat) : Int) from by omega]
    exact ih (k + 1) (i + 1) S V T true (by omega) (by omega) hg' hn'
theorem draws {l : List Int} (hl : l.length ≤ 1048576) (d : Nat) : ∀ (k : Nat) (p st s v t : Int) (b : Bool), d ≤ 9 → 3 * d + 210 < k → 0 ≤ p → good s v t b → laws_FnSettled.l0 k (d : Int) l p st s v t b = some true := by
  induction d with
  | zero =>
    intro k p st s v t b hd hk hp hg
    obtain ⟨k, rfl⟩ : ∃ m, k = m + 1 := ⟨k - 1, by omega⟩
    simp only [laws_FnSettled.l0]
    rw [if_neg (show ¬ (((0 : Nat) : Int) > 0) by omega)]
    obtain ⟨x, p', st', e, hx0, hx1, _⟩ := lwn_f hl st (n := 60001) hp (by omega) (by omega)
    rw [e]
    simp only [Option.bind_some]
    refine rounds (x := x) ⟨hx0, by omega⟩ 200 k 0 s v t b (by omega) (by omega) hg ⟨fun _ => ?_, ?_, fun h => absurd h (by omega)⟩
    · unfold good at hg
      rw [dn_zero, up_zero]
      omega
    · unfold good at hg
      rw [show 0 - 120 = 0 from rfl, vv_zero]
      omega
  | succ d ih =>
    intro k p st s v t b hd hk hp hg
    obtain ⟨k, rfl⟩ : ∃ m, k = m + 1 := ⟨k - 1, by omega⟩
    simp only [laws_FnSettled.l0]
    rw [if_pos (show (((d + 1 : Nat) : Int) > 0) by omega)]
    obtain ⟨x, p', st', e, hx0, hx1, hp'⟩ := lwn_f hl st (n := 3) hp (by omega) (by omega)
    rw [e]
    simp only [Option.bind_some]
    have hdn : wrap64 (((d + 1 : Nat) : Int) - 1) = (d : Int) := by rw [wr64 (by omega)]; omega
    by_cases h0 : x = 0
    · rw [if_pos h0, back_f hg]
      simp only [Option.bind_some]
      have hg' := hg
      unfold good at hg'
      have hb := hg.back
      have hb' := hb
      unfold good at hb'
      obtain ⟨k, rfl⟩ : ∃ m, k = m + 1 := ⟨k - 1, by omega⟩
      obtain ⟨k, rfl⟩ : ∃ m, k = m + 1 := ⟨k - 1, by omega⟩
      have key : ∀ w, mn (2 * t) 60000 = w → laws_FnSettled.j1 (k + 1 + 1) ((d + 1 : Nat) : Int) 0 w l p' st' s v (mn (2 * t) 60000) b s v t b = some true := by
        intro w hw
        simp only [laws_FnSettled.j1]
        rw [if_pos hw]
        simp only [laws_FnSettled.j2, bne_self_eq_false, Bool.false_eq_true, if_false, if_true]
        rw [if_neg (show ¬ (mn (2 * t) 60000 < 200) by omega), if_neg (show ¬ (mn (2 * t) 60000 > 60000) by omega), hdn]
        exact ih k p' st' _ _ _ _ (by omega) (by omega) hp' hb
      rw [wr64 (a := 2 * t) (by omega)]
      split
      · exact key _ (by unfold mn; split <;> omega)
      · exact key _ (by unfold mn; split <;> omega)
    · rw [if_neg h0]
      obtain ⟨y, q, st2, e2, hy0, hy1, hq⟩ := lwn_f hl st' (n := 60001) hp' (by omega) (by omega)
      rw [e2]
      simp only [Option.bind_some]
      obtain ⟨k, rfl⟩ : ∃ m, k = m + 1 := ⟨k - 1, by omega⟩
      rw [samp_f hg.ok (by omega)]
      simp only [Option.bind_some, if_true]
      have hr := rt_in (sS s b y) (sV s v b y)
      rw [if_neg (show ¬ (rt (sS s b y) (sV s v b y) < 200) by omega), if_neg (show ¬ (rt (sS s b y) (sV s v b y) > 60000) by omega), hdn]
      exact ih (k + 1) q st2 _ _ _ _ (by omega) (by omega) hq (hg.samp ⟨hy0, by omega⟩)
theorem FnSettled : laws_FnSettled.Pure := by
  intro l _ _ _
  by_cases h : (l.length : Int) > 1048576
  · refine ⟨1, ?_⟩
    unfold laws_FnSettled.f
    rw [if_pos h]
  · obtain ⟨k, hk⟩ : ∃ k, k = l.length + 300 := ⟨_, rfl⟩
    refine ⟨k, ?_⟩
    unfold laws_FnSettled.f
    rw [if_neg h]
    obtain ⟨st, e⟩ := lwb_f (l := l) (by omega) 11 (k := k) (by omega)
    rw [e]
    simp only [Option.bind_some, impl_NewRto.f, spec_NewRto.f, beq_self_eq_true, Bool.not_true, Bool.or_self, Bool.false_eq_true, if_false]
    obtain ⟨x, p', st', e, hx0, hx1, hp'⟩ := lwn_f (l := l) (by omega) st (p := 0) (n := 10) (by omega) (by omega) (by omega)
    rw [e]
    simp only [Option.bind_some]
    obtain ⟨d, rfl⟩ := Int.eq_ofNat_of_zero_le hx0
    refine draws (l := l) (by omega) d k p' st' 0 0 1000 false (by omega) (by omega) hp' ?_
    unfold good
    simp

end Go.Proofs.Ytmjmoeehcblnkaa.Pure
