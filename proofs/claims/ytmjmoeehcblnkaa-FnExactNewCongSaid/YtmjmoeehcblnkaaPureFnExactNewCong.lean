/- NewCong of the program returns what NewCong of the reference returns, for all arguments; without conditions. -/
import Derived.Test.YtmjmoeehcblnkaaPFnExactNewCongx1
set_option linter.unusedVariables false
set_option linter.unusedSimpArgs false
namespace Go.Proofs.Ytmjmoeehcblnkaa.Pure
open Go.RowKit Go.Proofs.Ytmjmoeehcblnkaa.PFnExactNewCong Go.Proofs.YtmjmoeehcblnkaaW.PrintWords Go.Proofs.YtmjmoeehcblnkaaW.PrintLast

/-! ### base -/
theorem wf64 {a : Int} (h : (Lit.int .i64 a).wf = true) : -9223372036854775808 ≤ a ∧ a ≤ 9223372036854775807 := by
  have h1 : IntKind.i64.min = -9223372036854775808 := by decide
  have h2 : IntKind.i64.max = 9223372036854775807 := by decide
  simp only [Lit.wf, Bool.and_eq_true, decide_eq_true_eq] at h
  omega
theorem tm_pos {a : Int} (n : Int) (h : 0 ≤ a) : Int.tmod a n = a % n := Int.tmod_eq_emod_of_nonneg h
theorem tm_neg {a : Int} (n : Int) (h : a ≤ 0) : Int.tmod a n = -((-a) % n) := by
  have := Int.neg_tmod (-a) n
  rw [Int.neg_neg] at this
  rw [this, Int.tmod_eq_emod_of_nonneg (by omega)]
theorem td_pos {a : Int} (n : Int) (h : 0 ≤ a) : Int.tdiv a n = a / n := Int.tdiv_eq_ediv_of_nonneg h
theorem wr64 {a : Int} (h : -9223372036854775808 ≤ a ∧ a ≤ 9223372036854775807) : wrap64 a = a := by
  unfold wrap64
  omega
theorem dec_eq {p : Prop} [Decidable p] {b : Bool} (h : b = true ↔ p) : some b = some (decide p) := by
  rw [Option.some.injEq, Bool.eq_iff_iff, decide_eq_true_eq]
  exact h

/-! ### addr0 -/
theorem in_f (a l h : Int) : spec_l01In.f a l h = some (decide (l ≤ a ∧ a ≤ h)) := by
  unfold spec_l01In.f
  by_cases h1 : a ≥ l
  · rw [if_pos h1]; congr 1; rw [decide_eq_decide]; omega
  · rw [if_neg h1]; congr 1; rw [eq_comm, decide_eq_false_iff_not]; omega

/-! ### cmin -/
theorem min_f (a b : Int) : spec_l14Min.f a b = some (mn a b) := by
  unfold spec_l14Min.f mn
  repeat' split
  all_goals first | rfl | (congr 1; omega)

/-! ### cmax -/
theorem max_f (a b : Int) : spec_l14Max.f a b = some (mx a b) := by
  unfold spec_l14Max.f mx
  repeat' split
  all_goals first | rfl | (congr 1; omega)

/-! ### ceq -/
theorem eqCong_same (r : Int × Int × Int × Int × Int) : laws_eqCong.f r.1 r.2.1 r.2.2.1 r.2.2.2.1 r.1 r.2.1 r.2.2.1 r.2.2.2.1 = some true := by
  unfold laws_eqCong.f
  simp

/-! ### the law -/
theorem new_eq (m : Int) : spec_NewCong.f m = impl_NewCong.f m := by
  unfold spec_NewCong.f impl_NewCong.f
  simp only [in_f, max_f, min_f, Option.bind_some]
  by_cases h : 1 ≤ m ∧ m ≤ 65535
  · rw [if_neg (show ¬ m < 1 by omega), if_neg (show ¬ m > 65535 by omega)]
    simp [h]
  · by_cases h1 : m < 1
    · rw [if_pos h1]; simp [h]
    · rw [if_neg h1, if_pos (show m > 65535 by omega)]; simp [h]
theorem new_some (m : Int) : ∃ r, impl_NewCong.f m = some r := by
  unfold impl_NewCong.f
  repeat' split
  all_goals exact ⟨_, rfl⟩
theorem FnExactNewCong : laws_FnExactNewCong.Pure := by
  intro m _
  unfold laws_FnExactNewCong.f
  rw [new_eq]
  obtain ⟨r, hr⟩ := new_some m
  rw [hr]
  simp only [Option.bind_some, eqCong_same]
  simp

end Go.Proofs.Ytmjmoeehcblnkaa.Pure
