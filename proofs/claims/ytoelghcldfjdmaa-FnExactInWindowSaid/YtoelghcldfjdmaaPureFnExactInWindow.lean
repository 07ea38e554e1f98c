/- InWindow of the program returns what InWindow of the reference returns, for all arguments; without conditions. -/
import Derived.Test.YtoelghcldfjdmaaPFnExactInWindowx1
set_option linter.unusedVariables false
set_option linter.unusedSimpArgs false
namespace Go.Proofs.Ytoelghcldfjdmaa.Pure
open Go.RowKit Go.Proofs.Ytoelghcldfjdmaa.PFnExactInWindow Go.Proofs.YtoelghcldfjdmaaW.PrintWords Go.Proofs.YtoelghcldfjdmaaW.PrintLast

/-! ### base -/
theorem wf64 {a : Int} (h : (Lit.int .i64 a).wf = true) : -9223372036854775808 ≤ a ∧ a ≤ 9223372036854775807 := by
  have h1 : IntKind.i64.min = -9223372036854775808 := by decide
  have h2 : IntKind.i64.max = 9223372036854775807 := by decide
  simp only [Lit.wf, Bool.and_eq_true, decide_eq_true_eq] at h
  omega
theorem tm_pos {a : Int} (n : Int) (h : 0 ≤ a) : Int.tmod a n = a % n := Int.tmod_eq_emod_of_nonneg h
theorem tm_neg {a : Int} (n : Int) (h : a ≤ 0) : Int.tmod a n = -((-a) % n) := by
  have := Int.neg_tmod (-a) n
  rw [Int.neg_neg] at this
  rw [this, Int.tmod_eq_emod_of_nonneg (by omega)]
theorem td_pos {a : Int} (n : Int) (h : 0 ≤ a) : Int.tdiv a n = a / n := Int.tdiv_eq_ediv_of_nonneg h
theorem wr64 {a : Int} (h : -9223372036854775808 ≤ a ∧ a ≤ 9223372036854775807) : wrap64 a = a := by
  unfold wrap64
  omega

/-! ### seq -/
theorem mod_f (a : Int) : spec_l01Mod.f a = some (a % 4294967296) := by
  unfold spec_l01Mod.f
  have h : wrap64 (Int.tmod a 4294967296 + 4294967296) = Int.tmod a 4294967296 + 4294967296 ∧ 0 ≤ Int.tmod a 4294967296 + 4294967296 ∧ (Int.tmod a 4294967296 + 4294967296) % 4294967296 = a % 4294967296 := by
    rcases Int.le_total 0 a with ha | ha
    · rw [tm_pos _ ha]
      unfold wrap64
      omega
    · rw [tm_neg _ ha]
      unfold wrap64
      omega
  rw [h.1, tm_pos _ h.2.1, h.2.2]

/-! ### the law -/
theorem FnExactInWindow : laws_FnExactInWindow.Pure := by
  intro a b c _ _ _
  unfold laws_FnExactInWindow.f spec_InWindow.f impl_InWindow.f
  rw [mod_f, mod_f]
  simp only [Option.bind_some]
  rw [wr64 (a := a % 4294967296 - b % 4294967296) (by omega), wr64 (by omega), tm_pos _ (by omega)]
  rw [show (a % 4294967296 - b % 4294967296 + 4294967296) % 4294967296 = (a % 4294967296 - b % 4294967296) % 4294967296 from by omega]
  simp

end Go.Proofs.Ytoelghcldfjdmaa.Pure
