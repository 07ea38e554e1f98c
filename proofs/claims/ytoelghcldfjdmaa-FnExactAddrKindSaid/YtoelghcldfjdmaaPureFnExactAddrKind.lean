/- AddrKind of the program returns what AddrKind of the reference returns, for all arguments; without conditions. -/
import Derived.Test.YtoelghcldfjdmaaPFnExactAddrKindx1
set_option linter.unusedVariables false
set_option linter.unusedSimpArgs false
namespace Go.Proofs.Ytoelghcldfjdmaa.Pure
open Go.RowKit Go.Proofs.Ytoelghcldfjdmaa.PFnExactAddrKind Go.Proofs.YtoelghcldfjdmaaW.PrintWords Go.Proofs.YtoelghcldfjdmaaW.PrintLast

/-! ### base -/
theorem wf64 {a : Int} (h : (Lit.int .i64 a).wf = true) : -9223372036854775808 ≤ a ∧ a ≤ 9223372036854775807 := by
  have h1 : IntKind.i64.min = -9223372036854775808 := by decide
  have h2 : IntKind.i64.max = 9223372036854775807 := by decide
  simp only [Lit.wf, Bool.and_eq_true, decide_eq_true_eq] at h
  omega
theorem tm_pos {a : Int} (n : Int) (h : 0 ≤ a) : Int.tmod a n = a % n := Int.tmod_eq_emod_of_nonneg h
theorem tm_neg {a : Int} (n : Int) (h : a ≤ 0) : Int.tmod a n = -((-a) % n) := by
  have := Int.neg_tmod (-a) n
  rw [Int.neg_neg] at this
  rw [this, Int.tmod_eq_emod_of_nonneg (by omega)]
theorem td_pos {a : Int} (n : Int) (h : 0 ≤ a) : Int.tdiv a n = a / n := Int.tdiv_eq_ediv_of_nonneg h
theorem wr64 {a : Int} (h : -9223372036854775808 ≤ a ∧ a ≤ 9223372036854775807) : wrap64 a = a := by
  unfold wrap64
  omega

/-! ### addr -/
theorem in_f (a l h : Int) : spec_l01In.f a l h = some (decide (l ≤ a ∧ a ≤ h)) := by
  unfold spec_l01In.f
  by_cases h1 : a ≥ l
  · rw [if_pos h1]; congr 1; rw [decide_eq_decide]; omega
  · rw [if_neg h1]; congr 1; rw [eq_comm, decide_eq_false_iff_not]; omega
theorem addrOK_f (a : Int) : spec_l02AddrOK.f a = some (decide (0 ≤ a ∧ a ≤ 4294967295)) := by
  unfold spec_l02AddrOK.f
  rw [in_f]
  rfl
theorem isAddr_f (a : Int) : impl_isAddr.f a = some (decide (0 ≤ a ∧ a ≤ 4294967295)) := by
  unfold impl_isAddr.f
  by_cases h1 : a ≥ 0
  · rw [if_pos h1]; congr 1; rw [decide_eq_decide]; omega
  · rw [if_neg h1]; congr 1; rw [eq_comm, decide_eq_false_iff_not]; omega

/-! ### kind -/
theorem kind_eq (a : Int) : spec_AddrKind.f a = impl_AddrKind.f a := by
  unfold spec_AddrKind.f impl_AddrKind.f
  rw [addrOK_f, isAddr_f]
  simp only [Option.bind_some]
  by_cases h : 0 ≤ a ∧ a ≤ 4294967295
  · simp only [h, and_self, decide_true, if_true]
    repeat' split
    all_goals first | rfl | omega
  · simp [h]
theorem kind_some (a : Int) : ∃ r, impl_AddrKind.f a = some r := by
  unfold impl_AddrKind.f
  rw [isAddr_f]
  simp only [Option.bind_some]
  repeat' split
  all_goals exact ⟨_, rfl⟩

/-! ### the law -/
theorem FnExactAddrKind : laws_FnExactAddrKind.Pure := by
  intro a _
  unfold laws_FnExactAddrKind.f
  rw [kind_eq]
  obtain ⟨r, hr⟩ := kind_some a
  rw [hr]
  simp

end Go.Proofs.Ytoelghcldfjdmaa.Pure
