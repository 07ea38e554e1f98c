/- RtoSample of the program returns what RtoSample of the reference returns, for all arguments; without conditions. -/
import Derived.Test.YtmjmoeehcblnkaaPFnExactRtoSamplex2
set_option linter.unusedVariables false
set_option linter.unusedSimpArgs false
namespace Go.Proofs.Ytmjmoeehcblnkaa.Pure
open Go.RowKit Go.Proofs.Ytmjmoeehcblnkaa.PFnExactRtoSample Go.Proofs.YtmjmoeehcblnkaaW.PrintWords Go.Proofs.YtmjmoeehcblnkaaW.PrintLast

/-! ### base -/
theorem wf64 {a : Int} (h : (Lit.int .i64 a).wf = true) : -9223372036854775808 ≤ a ∧ a ≤ 9223372036854775807 := by
  have h1 : IntKind.i64.min = -9223372036854775808 := by decide
  have h2 : IntKind.i64.max = 9223372036854775807 := by decide
  simp only [Lit.wf, Bool.and_eq_true, decide_eq_true_eq] at h
  omega
theorem tm_pos {a : Int} (n : Int) (h : 0 ≤ a) : Int.tmod a n = a % n := Int.tmod_eq_emod_of_nonneg h
theorem tm_neg {a : Int} (n : Int) (h : a ≤ 0) : Int.tmod a n = -((-a) % n) := by
  have := Int.neg_tmod (-a) n
  rw [Int.neg_neg] at this
  rw [this, Int.tmod_eq_emod_of_nonneg (by omega)]
theorem td_pos {a : Int} (n : Int) (h : 0 ≤ a) : Int.tdiv a n = a / n := Int.tdiv_eq_ediv_of_nonneg h
theorem wr64 {a : Int} (h : -9223372036854775808 ≤ a ∧ a ≤ 9223372036854775807) : wrap64 a = a := by
  unfold wrap64
  omega
theorem dec_eq {p : Prop} [Decidable p] {b : Bool} (h : b = true ↔ p) : some b = some (decide p) := by
  rw [Option.some.injEq, Bool.eq_iff_iff, decide_eq_true_eq]
  exact h

/-! ### addr0 -/
theorem in_f (a l h : Int) : spec_l01In.f a l h = some (decide (l ≤ a ∧ a ≤ h)) := by
  unfold spec_l01In.f
  by_cases h1 : a ≥ l
  · rw [if_pos h1]; congr 1; rw [decide_eq_decide]; omega
  · rw [if_neg h1]; congr 1; rw [eq_comm, decide_eq_false_iff_not]; omega

/-! ### rto -/
def okR (s v t : Int) (b : Bool) : Prop := (0 ≤ s ∧ s ≤ 8000000) ∧ (0 ≤ v ∧ v ≤ 4000000) ∧ (200 ≤ t ∧ t ≤ 60000) ∧ (b = true ∨ s = 0 ∧ v = 0)
instance (s v t : Int) (b : Bool) : Decidable (okR s v t b) := by unfold okR; exact inferInstance
theorem okR_impl (s v t : Int) (b : Bool) : impl_okRto.f s v t b = some (decide (okR s v t b)) := by
  unfold impl_okRto.f
  repeat' split
  all_goals (apply dec_eq; unfold okR; cases b <;> simp_all <;> omega)
theorem okR_spec (s v t : Int) (b : Bool) : spec_l13OK.f s v t b = some (decide (okR s v t b)) := by
  unfold spec_l13OK.f
  simp only [in_f, Option.bind_some]
  repeat' split
  all_goals (apply dec_eq; unfold okR; cases b <;> simp_all <;> omega)
theorem within_f (a l h : Int) (hlh : l ≤ h) : spec_l13Within.f a l h = some (mn (mx a l) h) := by
  unfold spec_l13Within.f mn mx
  repeat' split
  all_goals first | rfl | (congr 1; omega)
theorem eqRto_same (r : Int × Int × Int × Bool × Int) : laws_eqRto.f r.1 r.2.1 r.2.2.1 r.2.2.2.1 r.1 r.2.1 r.2.2.1 r.2.2.2.1 = some true := by
  unfold laws_eqRto.f
  simp

/-! ### the law -/
theorem same (s v t : Int) (b : Bool) (x : Int) : spec_RtoSample.f 1 s v t b x = impl_RtoSample.f 1 s v t b x := by
  unfold spec_RtoSample.f impl_RtoSample.f
  simp only [okR_spec, okR_impl, in_f, Option.bind_some, spec_RtoSample.j0, impl_RtoSample.j0]
  by_cases h : okR s v t b
  · have h' := h
    unfold okR at h'
    simp only [h, decide_true, if_true]
    by_cases h1 : 0 ≤ x ∧ x ≤ 1000000
    · rw [if_neg (show ¬ x < 0 by omega), show decide (x > 1000000) = false from by simp; omega]
      simp only [h1, and_self, decide_true, Bool.not_true, Bool.false_eq_true, if_false]
      cases b with
      | true =>
        simp only [if_true]
        rw [td_pos (a := s) 8 (by omega), td_pos (a := v) 4 (by omega), wr64 (a := s / 8) (by omega), wr64 (a := v / 4) (by omega), wr64 (a := x - s / 8) (by omega), wr64 (a := v - v / 4) (by omega), wr64 (a := s + (x - s / 8)) (by omega), td_pos (a := s + (x - s / 8)) 8 (by omega), wr64 (a := (s + (x - s / 8)) / 8) (by omega)]
        by_cases hx : x - s / 8 < 0
        · rw [if_pos hx, if_pos hx, wr64 (a := -(x - s / 8)) (by omega), wr64 (a := -(x - s / 8) - v / 4) (by omega), wr64 (a := v + (-(x - s / 8) - v / 4)) (by omega), wr64 (a := v - v / 4 + -(x - s / 8)) (by omega), show v - v / 4 + -(x - s / 8) = v + (-(x - s / 8) - v / 4) from by omega]
          split <;> (rw [within_f _ _ _ (by omega)]; rfl)
        · rw [if_neg hx, if_neg hx, wr64 (a := x - s / 8 - v / 4) (by omega), wr64 (a := v + (x - s / 8 - v / 4)) (by omega), wr64 (a := v - v / 4 + (x - s / 8)) (by omega), show v - v / 4 + (x - s / 8) = v + (x - s / 8 - v / 4) from by omega]
          split <;> (rw [within_f _ _ _ (by omega)]; rfl)
      | false =>
        simp only [Bool.false_eq_true, if_false]
        split <;> (rw [within_f _ _ _ (by omega)]; rfl)
    · by_cases h2 : x < 0
      · rw [if_pos h2]; simp [h1]
      · rw [if_neg h2, show decide (x > 1000000) = true from by simp; omega]; simp [h1]
  · simp [h]
theorem some_r (s v t : Int) (b : Bool) (x : Int) : ∃ r, impl_RtoSample.f 1 s v t b x = some r := by
  unfold impl_RtoSample.f
  simp only [okR_impl, Option.bind_some, impl_RtoSample.j0]
  repeat' split
  all_goals exact ⟨_, rfl⟩
theorem FnExactRtoSample : ∀ (s v t : Int) (b : Bool) (x : Int), (Lit.int .i64 s).wf = true → (Lit.int .i64 v).wf = true → (Lit.int .i64 t).wf = true → (Lit.int .i64 x).wf = true → ∃ k, laws_FnExactRtoSample.f k s v t b x = some true := by
  intro s v t b x _ _ _ _
  refine ⟨1, ?_⟩
  unfold laws_FnExactRtoSample.f laws_toRto.f
  simp only [Option.bind_some]
  rw [same]
  obtain ⟨r, hr⟩ := some_r s v t b x
  rw [hr]
  simp only [Option.bind_some, eqRto_same]
  simp

end Go.Proofs.Ytmjmoeehcblnkaa.Pure
