/- CongAck of the program returns what CongAck of the reference returns, for all arguments; without conditions. -/
import Derived.Test.YtmjmoeehcblnkaaPFnExactCongAckx2
set_option linter.unusedVariables false
set_option linter.unusedSimpArgs false
namespace Go.Proofs.Ytmjmoeehcblnkaa.Pure
open Go.RowKit Go.Proofs.Ytmjmoeehcblnkaa.PFnExactCongAck Go.Proofs.YtmjmoeehcblnkaaW.PrintWords Go.Proofs.YtmjmoeehcblnkaaW.PrintLast

/-! ### base -/
theorem wf64 {a : Int} (h : (Lit.int .i64 a).wf = true) : -9223372036854775808 ≤ a ∧ a ≤ 9223372036854775807 := by
  have h1 : IntKind.i64.min = -9223372036854775808 := by decide
  have h2 : IntKind.i64.max = 9223372036854775807 := by decide
  simp only [Lit.wf, Bool.and_eq_true, decide_eq_true_eq] at h
  omega
theorem tm_pos {a : Int} (n : Int) (h : 0 ≤ a) : Int.tmod a n = a % n := Int.tmod_eq_emod_of_nonneg h
theorem tm_neg {a : Int} (n : Int) (h : a ≤ 0) : Int.tmod a n = -((-a) % n) := by
  have := Int.neg_tmod (-a) n
  rw [Int.neg_neg] at this
  rw [this, Int.tmod_eq_emod_of_nonneg (by omega)]
theorem td_pos {a : Int} (n : Int) (h : 0 ≤ a) : Int.tdiv a n = a / n := Int.tdiv_eq_ediv_of_nonneg h
theorem wr64 {a : Int} (h : -9223372036854775808 ≤ a ∧ a ≤ 9223372036854775807) : wrap64 a = a := by
  unfold wrap64
  omega
theorem dec_eq {p : Prop} [Decidable p] {b : Bool} (h : b = true ↔ p) : some b = some (decide p) := by
  rw [Option.some.injEq, Bool.eq_iff_iff, decide_eq_true_eq]
  exact h

/-! ### addr0 -/
theorem in_f (a l h : Int) : spec_l01In.f a l h = some (decide (l ≤ a ∧ a ≤ h)) := by
  unfold spec_l01In.f
  by_cases h1 : a ≥ l
  · rw [if_pos h1]; congr 1; rw [decide_eq_decide]; omega
  · rw [if_neg h1]; congr 1; rw [eq_comm, decide_eq_false_iff_not]; omega

/-! ### cong -/
def okC (m c s n : Int) : Prop := (1 ≤ m ∧ m ≤ 65535) ∧ (m ≤ c ∧ c ≤ 1073741824) ∧ (2 * m ≤ s ∧ s ≤ 1073741824) ∧ (0 ≤ n ∧ n < c)
instance (m c s n : Int) : Decidable (okC m c s n) := by unfold okC; exact inferInstance
theorem okC_spec (m c s n : Int) : spec_l14OK.f m c s n = some (decide (okC m c s n)) := by
  unfold spec_l14OK.f
  simp only [in_f, Option.bind_some]
  by_cases h1 : 1 ≤ m ∧ m ≤ 65535
  · simp only [h1, and_self, decide_true, if_true]
    by_cases h2 : m ≤ c ∧ c ≤ 1073741824
    · rw [wr64 (a := 2 * m) (by omega), wr64 (a := c - 1) (by omega)]
      simp only [h2, and_self, decide_true, if_true]
      by_cases h3 : 2 * m ≤ s ∧ s ≤ 1073741824
      · simp only [h3, and_self, decide_true, if_true]
        apply dec_eq
        unfold okC
        rw [decide_eq_true_eq]
        omega
      · simp only [h3, decide_false, Bool.false_eq_true, if_false]
        apply dec_eq
        unfold okC
        simp only [Bool.false_eq_true, false_iff]
        omega
    · simp only [h2, decide_false, Bool.false_eq_true, if_false]
      apply dec_eq
      unfold okC
      simp only [Bool.false_eq_true, false_iff]
      omega
  · simp only [h1, decide_false, Bool.false_eq_true, if_false]
    apply dec_eq
    unfold okC
    simp only [Bool.false_eq_true, false_iff]
    omega
theorem okC_impl (m c s n : Int) : impl_okCong.f m c s n = some (decide (okC m c s n)) := by
  unfold impl_okCong.f
  by_cases h1 : 1 ≤ m ∧ m ≤ 65535
  · rw [wr64 (a := 2 * m) (by omega)]
    repeat' split
    all_goals (apply dec_eq; unfold okC; first | (simp only [Bool.false_eq_true, false_iff]; omega) | (rw [decide_eq_true_eq]; omega))
  · by_cases h2 : m ≥ 1
    · rw [if_pos h2, if_neg (by omega)]
      apply dec_eq
      unfold okC
      simp only [Bool.false_eq_true, false_iff]
      omega
    · rw [if_neg h2]
      apply dec_eq
      unfold okC
      simp only [Bool.false_eq_true, false_iff]
      omega

/-! ### cmin -/
theorem min_f (a b : Int) : spec_l14Min.f a b = some (mn a b) := by
  unfold spec_l14Min.f mn
  repeat' split
  all_goals first | rfl | (congr 1; omega)

/-! ### ceq -/
theorem eqCong_same (r : Int × Int × Int × Int × Int) : laws_eqCong.f r.1 r.2.1 r.2.2.1 r.2.2.2.1 r.1 r.2.1 r.2.2.1 r.2.2.2.1 = some true := by
  unfold laws_eqCong.f
  simp

/-! ### the law -/
theorem same (m c s n x : Int) : spec_CongAck.f 1 m c s n x = impl_CongAck.f 1 m c s n x := by
  unfold spec_CongAck.f impl_CongAck.f
  simp only [okC_spec, okC_impl, in_f, Option.bind_some, spec_CongAck.j0, impl_CongAck.j0, min_f]
  by_cases h : okC m c s n
  · simp only [h, decide_true, if_true]
    have h' := h
    unfold okC at h'
    by_cases h1 : 1 ≤ x ∧ x ≤ 1073741824
    · rw [if_neg (show ¬ x < 1 by omega)]
      have h3 : mn c 1073741824 = c := by unfold mn; rw [if_neg (by omega)]
      have h2 : decide (x > 1073741824) = false := by simp; omega
      simp [h1, h2, h3]
    · by_cases h2 : x < 1
      · rw [if_pos h2]; simp [h1]
      · have h3 : decide (x > 1073741824) = true := by simp; omega
        rw [if_neg h2]; simp [h1, h3]
  · simp [h]
theorem some_r (m c s n x : Int) : ∃ r, impl_CongAck.f 1 m c s n x = some r := by
  unfold impl_CongAck.f
  simp only [okC_impl, Option.bind_some, impl_CongAck.j0]
  repeat' split
  all_goals exact ⟨_, rfl⟩
theorem FnExactCongAck : ∀ (m c s n x : Int), (Lit.int .i64 m).wf = true → (Lit.int .i64 c).wf = true → (Lit.int .i64 s).wf = true → (Lit.int .i64 n).wf = true → (Lit.int .i64 x).wf = true → ∃ k, laws_FnExactCongAck.f k m c s n x = some true := by
  intro m c s n x _ _ _ _ _
  refine ⟨1, ?_⟩
  unfold laws_FnExactCongAck.f laws_toCong.f
  simp only [Option.bind_some]
  rw [same]
  obtain ⟨r, hr⟩ := some_r m c s n x
  rw [hr]
  simp only [Option.bind_some, eqCong_same]
  simp

end Go.Proofs.Ytmjmoeehcblnkaa.Pure
