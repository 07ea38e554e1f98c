/- RtoBackoff of the program returns what RtoBackoff of the reference returns, for all arguments; without conditions. -/
import Derived.Test.YtmjmoeehcblnkaaPFnExactRtoBackoffx1
set_option linter.unusedVariables false
set_option linter.unusedSimpArgs false
namespace Go.Proofs.Ytmjmoeehcblnkaa.Pure
open Go.RowKit Go.Proofs.Ytmjmoeehcblnkaa.PFnExactRtoBackoff Go.Proofs.YtmjmoeehcblnkaaW.PrintWords Go.Proofs.YtmjmoeehcblnkaaW.PrintLast

/-! ### base -/
theorem wf64 {a : Int} (h : (Lit.int .i64 a).wf = true) : -9223372036854775808 ≤ a ∧ a ≤ 9223372036854775807 := by
  have h1 : IntKind.i64.min = -9223372036854775808 := by decide
  have h2 : IntKind.i64.max = 9223372036854775807 := by decide
  simp only [Lit.wf, Bool.and_eq_true, decide_eq_true_eq] at h
  omega
theorem tm_pos {a : Int} (n : Int) (h : 0 ≤ a) : Int.tmod a n = a % n := Int.tmod_eq_emod_of_nonneg h
theorem tm_neg {a : Int} (n : Int) (h : a ≤ 0) : Int.tmod a n = -((-a) % n) := by
  have := Int.neg_tmod (-a) n
  rw [Int.neg_neg] at this
  rw [this, Int.tmod_eq_emod_of_nonneg (by omega)]
theorem td_pos {a : Int} (n : Int) (h : 0 ≤ a) : Int.tdiv a n = a / n := Int.tdiv_eq_ediv_of_nonneg h
theorem wr64 {a : Int} (h : -9223372036854775808 ≤ a ∧ a ≤ 9223372036854775807) : wrap64 a = a := by
  unfold wrap64
  omega
theorem dec_eq {p : Prop} [Decidable p] {b : Bool} (h : b = true ↔ p) : some b = some (decide p) := by
  rw [Option.some.injEq, Bool.eq_iff_iff, decide_eq_true_eq]
  exact h

/-! ### addr0 -/
theorem in_f (a l h : Int) : spec_l01In.f a l h = some (decide (l ≤ a ∧ a ≤ h)) := by
  unfold spec_l01In.f
  by_cases h1 : a ≥ l
  · rw [if_pos h1]; congr 1; rw [decide_eq_decide]; omega
  · rw [if_neg h1]; congr 1; rw [eq_comm, decide_eq_false_iff_not]; omega

/-! ### rto -/
def okR (s v t : Int) (b : Bool) : Prop := (0 ≤ s ∧ s ≤ 8000000) ∧ (0 ≤ v ∧ v ≤ 4000000) ∧ (200 ≤ t ∧ t ≤ 60000) ∧ (b = true ∨ s = 0 ∧ v = 0)
instance (s v t : Int) (b : Bool) : Decidable (okR s v t b) := by unfold okR; exact inferInstance
theorem okR_impl (s v t : Int) (b : Bool) : impl_okRto.f s v t b = some (decide (okR s v t b)) := by
  unfold impl_okRto.f
  repeat' split
  all_goals (apply dec_eq; unfold okR; cases b <;> simp_all <;> omega)
theorem okR_spec (s v t : Int) (b : Bool) : spec_l13OK.f s v t b = some (decide (okR s v t b)) := by
  unfold spec_l13OK.f
  simp only [in_f, Option.bind_some]
  repeat' split
  all_goals (apply dec_eq; unfold okR; cases b <;> simp_all <;> omega)
theorem within_f (a l h : Int) (hlh : l ≤ h) : spec_l13Within.f a l h = some (mn (mx a l) h) := by
  unfold spec_l13Within.f mn mx
  repeat' split
  all_goals first | rfl | (congr 1; omega)
theorem eqRto_same (r : Int × Int × Int × Bool × Int) : laws_eqRto.f r.1 r.2.1 r.2.2.1 r.2.2.2.1 r.1 r.2.1 r.2.2.1 r.2.2.2.1 = some true := by
  unfold laws_eqRto.f
  simp

/-! ### the law -/
theorem same (s v t : Int) (b : Bool) : spec_RtoBackoff.f s v t b = impl_RtoBackoff.f s v t b := by
  unfold spec_RtoBackoff.f impl_RtoBackoff.f
  simp only [okR_spec, okR_impl, Option.bind_some]
  by_cases h : okR s v t b
  · have h' := h
    unfold okR at h'
    simp only [h, decide_true, if_true]
    rw [wr64 (a := 2 * t) (by omega), within_f _ _ _ (by omega)]
    simp only [Option.bind_some]
    rw [show mx (2 * t) 200 = 2 * t from by unfold mx; omega]
  · simp [h]
theorem some_r (s v t : Int) (b : Bool) : ∃ r, impl_RtoBackoff.f s v t b = some r := by
  unfold impl_RtoBackoff.f
  simp only [okR_impl, Option.bind_some]
  repeat' split
  all_goals exact ⟨_, rfl⟩
theorem FnExactRtoBackoff : ∀ (s v t : Int) (b : Bool), (Lit.int .i64 s).wf = true → (Lit.int .i64 v).wf = true → (Lit.int .i64 t).wf = true → laws_FnExactRtoBackoff.f s v t b = some true := by
  intro s v t b _ _ _
  unfold laws_FnExactRtoBackoff.f laws_toRto.f
  simp only [Option.bind_some]
  rw [same]
  obtain ⟨r, hr⟩ := some_r s v t b
  rw [hr]
  simp only [Option.bind_some, eqRto_same]
  simp

end Go.Proofs.Ytmjmoeehcblnkaa.Pure
