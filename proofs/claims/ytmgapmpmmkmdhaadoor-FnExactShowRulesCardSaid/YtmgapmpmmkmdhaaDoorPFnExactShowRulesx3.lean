-- Written for this claim by a program of this session (wip/mkprint.py: the print, turned at a few places). Not trusted: Lean checks it.
import Derived.Test.YtmgapmpmmkmdhaaDoorPFnExactShowRulesx0
import Derived.Test.YtmgapmpmmkmdhaaDoorPFnExactShowRulesx1
import Derived.Test.YtmgapmpmmkmdhaaDoorPFnExactShowRulesx2
namespace Go.Proofs.YtmgapmpmmkmdhaaDoor.PFnExactShowRules
open Go.RowKit Go.Proofs.YtmgapmpmmkmdhaaDoorW.PrintWords Go.Proofs.YtmgapmpmmkmdhaaDoorW.PrintLast Go.Proofs.YtmgapmpmmkmdhaaDoorW.PrintMore
attribute [local go_sem] max2_int min2_int max_two min_two max_three min_three max_four min_four   -- for this text's walks alone
set_option linter.unusedVariables false
set_option linter.unusedSimpArgs false

/-! ### spec_l09ShowSide: function 12 -/
def spec_l09ShowSide.f (k : Nat) (a0_0 : Int) (a0_1 : Int) (a1 : Int) (a2 : Int) : Option (ByteArray) := if a0_1 > 0 then ((spec_ShowPrefix.f k a0_0 a0_1).bind fun bt152 => ((spec_l09AllPorts.f a1 a2).bind fun t154 => (if t154 = true then (some bt152.1) else (if bt152.1.size + 6 ≤ 9223372036854775807 then ((spec_l02Dec.f k a1).bind fun t155 => (if (bt152.1 ++ (⟨#[32, 112, 111, 114, 116, 32]⟩ : ByteArray)).size + t155.size ≤ 9223372036854775807 then (if a1 = a2 then (some ((bt152.1 ++ (⟨#[32, 112, 111, 114, 116, 32]⟩ : ByteArray)) ++ t155)) else (if ((bt152.1 ++ (⟨#[32, 112, 111, 114, 116, 32]⟩ : ByteArray)) ++ t155).size + 1 ≤ 9223372036854775807 then ((spec_l02Dec.f k a2).bind fun t156 => (if (((bt152.1 ++ (⟨#[32, 112, 111, 114, 116, 32]⟩ : ByteArray)) ++ t155) ++ (⟨#[45]⟩ : ByteArray)).size + t156.size ≤ 9223372036854775807 then (some ((((bt152.1 ++ (⟨#[32, 112, 111, 114, 116, 32]⟩ : ByteArray)) ++ t155) ++ (⟨#[45]⟩ : ByteArray)) ++ t156)) else (none))) else (none))) else (none))) else (none))))) else ((spec_l09AllPorts.f a1 a2).bind fun t157 => (if t157 = true then (some (⟨#[97, 110, 121]⟩ : ByteArray)) else (if 3 + 6 ≤ 9223372036854775807 then ((spec_l02Dec.f k a1).bind fun t158 => (if ((⟨#[97, 110, 121]⟩ : ByteArray) ++ (⟨#[32, 112, 111, 114, 116, 32]⟩ : ByteArray)).size + t158.size ≤ 9223372036854775807 then (if a1 = a2 then (some (((⟨#[97, 110, 121]⟩ : ByteArray) ++ (⟨#[32, 112, 111, 114, 116, 32]⟩ : ByteArray)) ++ t158)) else (if (((⟨#[97, 110, 121]⟩ : ByteArray) ++ (⟨#[32, 112, 111, 114, 116, 32]⟩ : ByteArray)) ++ t158).size + 1 ≤ 9223372036854775807 then ((spec_l02Dec.f k a2).bind fun t159 => (if ((((⟨#[97, 110, 121]⟩ : ByteArray) ++ (⟨#[32, 112, 111, 114, 116, 32]⟩ : ByteArray)) ++ t158) ++ (⟨#[45]⟩ : ByteArray)).size + t159.size ≤ 9223372036854775807 then (some (((((⟨#[97, 110, 121]⟩ : ByteArray) ++ (⟨#[32, 112, 111, 114, 116, 32]⟩ : ByteArray)) ++ t158) ++ (⟨#[45]⟩ : ByteArray)) ++ t159)) else (none))) else (none))) else (none))) else (none))))
theorem spec_l09ShowSide.mono : ∀ a0 a1 a2 a3 k, LeO (spec_l09ShowSide.f k a0 a1 a2 a3) (spec_l09ShowSide.f (k + 1) a0 a1 a2 a3) := by
 intro a0 a1 a2 a3 k
 unfold spec_l09ShowSide.f
 repeat' first
     | (with_reducible exact spec_ShowPrefix.mono _ _ _)
     | (with_reducible exact spec_l02Dec.mono _ _)
     | (with_reducible exact LeO.refl _)
     | (with_reducible exact LeO.none _)
     | (with_reducible refine LeO.ite ?_ ?_)
     | (with_reducible refine LeO.bind ?_ (fun _ => ?_))
     | exact spec_ShowPrefix.mono _ _ _
     | exact spec_l02Dec.mono _ _
     | exact LeO.none _
     | refine LeO.ite ?_ ?_
     | refine LeO.bind ?_ (fun _ => ?_)
set_option maxHeartbeats 60000000 in
set_option maxRecDepth 100000 in
theorem spec_l09ShowSide.calls (k : Nat) (a0_0 : Int) (a0_1 : Int) (a1 : Int) (a2 : Int) (r : ByteArray) (w : World) (h : spec_l09ShowSide.f k a0_0 a0_1 a1 a2 = some r) :
 Calls Tryd.prog 12 #[.agg #[.int .i64 a0_0, .int .i64 a0_1], .int .i64 a1, .int .i64 a2] w fun e w' => e = .returned (.string r) ∧ Below w.heap.size w w' := by
 have hu31 := Tryd.underlying31
 have HB := Aside0.mk (Below.refl w.heap.size w)
 have H : (if a0_1 > 0 then ((spec_ShowPrefix.f k a0_0 a0_1).bind fun bt152 => ((spec_l09AllPorts.f a1 a2).bind fun t154 => (if t154 = true then (some bt152.1) else (if bt152.1.size + 6 ≤ 9223372036854775807 then ((spec_l02Dec.f k a1).bind fun t155 => (if (bt152.1 ++ (⟨#[32, 112, 111, 114, 116, 32]⟩ : ByteArray)).size + t155.size ≤ 9223372036854775807 then (if a1 = a2 then (some ((bt152.1 ++ (⟨#[32, 112, 111, 114, 116, 32]⟩ : ByteArray)) ++ t155)) else (if ((bt152.1 ++ (⟨#[32, 112, 111, 114, 116, 32]⟩ : ByteArray)) ++ t155).size + 1 ≤ 9223372036854775807 then ((spec_l02Dec.f k a2).bind fun t156 => (if (((bt152.1 ++ (⟨#[32, 112, 111, 114, 116, 32]⟩ : ByteArray)) ++ t155) ++ (⟨#[45]⟩ : ByteArray)).size + t156.size ≤ 9223372036854775807 then (some ((((bt152.1 ++ (⟨#[32, 112, 111, 114, 116, 32]⟩ : ByteArray)) ++ t155) ++ (⟨#[45]⟩ : ByteArray)) ++ t156)) else (none))) else (none))) else (none))) else (none))))) else ((spec_l09AllPorts.f a1 a2).bind fun t157 => (if t157 = true then (some (⟨#[97, 110, 121]⟩ : ByteArray)) else (if 3 + 6 ≤ 9223372036854775807 then ((spec_l02Dec.f k a1).bind fun t158 => (if ((⟨#[97, 110, 121]⟩ : ByteArray) ++ (⟨#[32, 112, 111, 114, 116, 32]⟩ : ByteArray)).size + t158.size ≤ 9223372036854775807 then (if a1 = a2 then (some (((⟨#[97, 110, 121]⟩ : ByteArray) ++ (⟨#[32, 112, 111, 114, 116, 32]⟩ : ByteArray)) ++ t158)) else (if (((⟨#[97, 110, 121]⟩ : ByteArray) ++ (⟨#[32, 112, 111, 114, 116, 32]⟩ : ByteArray)) ++ t158).size + 1 ≤ 9223372036854775807 then ((spec_l02Dec.f k a2).bind fun t159 => (if ((((⟨#[97, 110, 121]⟩ : ByteArray) ++ (⟨#[32, 112, 111, 114, 116, 32]⟩ : ByteArray)) ++ t158) ++ (⟨#[45]⟩ : ByteArray)).size + t159.size ≤ 9223372036854775807 then (some (((((⟨#[97, 110, 121]⟩ : ByteArray) ++ (⟨#[32, 112, 111, 114, 116, 32]⟩ : ByteArray)) ++ t158) ++ (⟨#[45]⟩ : ByteArray)) ++ t159)) else (none))) else (none))) else (none))) else (none))))) = some r := h
 clear h
 by_cases c4 : a0_1 > 0
 rw [if_pos c4] at H
 have c4b0 : decide (0 < a0_1) = true := decide_eq_true c4
 clear c4
 replace H := Option.bind_eq_some_iff.mp H
 obtain ⟨⟨t152, t153⟩, A50, H⟩ := H
 replace H : ((spec_l09AllPorts.f a1 a2).bind fun t154 => (if t154 = true then (some t152) else (if t152.size + 6 ≤ 9223372036854775807 then ((spec_l02Dec.f k a1).bind fun t155 => (if (t152 ++ (⟨#[32, 112, 111, 114, 116, 32]⟩ : ByteArray)).size + t155.size ≤ 9223372036854775807 then (if a1 = a2 then (some ((t152 ++ (⟨#[32, 112, 111, 114, 116, 32]⟩ : ByteArray)) ++ t155)) else (if ((t152 ++ (⟨#[32, 112, 111, 114, 116, 32]⟩ : ByteArray)) ++ t155).size + 1 ≤ 9223372036854775807 then ((spec_l02Dec.f k a2).bind fun t156 => (if (((t152 ++ (⟨#[32, 112, 111, 114, 116, 32]⟩ : ByteArray)) ++ t155) ++ (⟨#[45]⟩ : ByteArray)).size + t156.size ≤ 9223372036854775807 then (some ((((t152 ++ (⟨#[32, 112, 111, 114, 116, 32]⟩ : ByteArray)) ++ t155) ++ (⟨#[45]⟩ : ByteArray)) ++ t156)) else (none))) else (none))) else (none))) else (none)))) = some r := H
 have A5 := Aside0.mk A50
 clear A50
 replace H := Option.bind_eq_some_iff.mp H
 obtain ⟨t154, A60, H⟩ := H
 replace H : (if t154 = true then (some t152) else (if t152.size + 6 ≤ 9223372036854775807 then ((spec_l02Dec.f k a1).bind fun t155 => (if (t152 ++ (⟨#[32, 112, 111, 114, 116, 32]⟩ : ByteArray)).size + t155.size ≤ 9223372036854775807 then (if a1 = a2 then (some ((t152 ++ (⟨#[32, 112, 111, 114, 116, 32]⟩ : ByteArray)) ++ t155)) else (if ((t152 ++ (⟨#[32, 112, 111, 114, 116, 32]⟩ : ByteArray)) ++ t155).size + 1 ≤ 9223372036854775807 then ((spec_l02Dec.f k a2).bind fun t156 => (if (((t152 ++ (⟨#[32, 112, 111, 114, 116, 32]⟩ : ByteArray)) ++ t155) ++ (⟨#[45]⟩ : ByteArray)).size + t156.size ≤ 9223372036854775807 then (some ((((t152 ++ (⟨#[32, 112, 111, 114, 116, 32]⟩ : ByteArray)) ++ t155) ++ (⟨#[45]⟩ : ByteArray)) ++ t156)) else (none))) else (none))) else (none))) else (none))) = some r := H
 have A6 := Aside0.mk A60
 clear A60
 by_cases c7 : t154 = true
 subst c7
 have H1 : (some t152) = some r := by rw [if_pos rfl] at H; exact H
 clear H
 have H := H1
 clear H1
 obtain rfl := Option.some.inj H
 rotate_left
 replace c7 := Bool.eq_false_iff.mpr c7
 subst c7
 have H1 : (if t152.size + 6 ≤ 9223372036854775807 then ((spec_l02Dec.f k a1).bind fun t155 => (if (t152 ++ (⟨#[32, 112, 111, 114, 116, 32]⟩ : ByteArray)).size + t155.size ≤ 9223372036854775807 then (if a1 = a2 then (some ((t152 ++ (⟨#[32, 112, 111, 114, 116, 32]⟩ : ByteArray)) ++ t155)) else (if ((t152 ++ (⟨#[32, 112, 111, 114, 116, 32]⟩ : ByteArray)) ++ t155).size + 1 ≤ 9223372036854775807 then ((spec_l02Dec.f k a2).bind fun t156 => (if (((t152 ++ (⟨#[32, 112, 111, 114, 116, 32]⟩ : ByteArray)) ++ t155) ++ (⟨#[45]⟩ : ByteArray)).size + t156.size ≤ 9223372036854775807 then (some ((((t152 ++ (⟨#[32, 112, 111, 114, 116, 32]⟩ : ByteArray)) ++ t155) ++ (⟨#[45]⟩ : ByteArray)) ++ t156)) else (none))) else (none))) else (none))) else (none)) = some r := by rw [if_neg (show ¬ (false = true) by decide)] at H; exact H
 clear H
 have H := H1
 clear H1
 by_cases c8 : t152.size + 6 ≤ 9223372036854775807
 rw [if_pos c8] at H
 have c8b0 := eq_true c8
 have c8b1 : decide (t152.size + 6 ≤ 9223372036854775807) = true := decide_eq_true c8
 try have c8b2 : (9223372036854775807 < t152.size + 6) = False := eq_false (Nat.not_lt.2 c8)
 replace H := Option.bind_eq_some_iff.mp H
 obtain ⟨t155, A90, H⟩ := H
 replace H : (if (t152 ++ (⟨#[32, 112, 111, 114, 116, 32]⟩ : ByteArray)).size + t155.size ≤ 9223372036854775807 then (if a1 = a2 then (some ((t152 ++ (⟨#[32, 112, 111, 114, 116, 32]⟩ : ByteArray)) ++ t155)) else (if ((t152 ++ (⟨#[32, 112, 111, 114, 116, 32]⟩ : ByteArray)) ++ t155).size + 1 ≤ 9223372036854775807 then ((spec_l02Dec.f k a2).bind fun t156 => (if (((t152 ++ (⟨#[32, 112, 111, 114, 116, 32]⟩ : ByteArray)) ++ t155) ++ (⟨#[45]⟩ : ByteArray)).size + t156.size ≤ 9223372036854775807 then (some ((((t152 ++ (⟨#[32, 112, 111, 114, 116, 32]⟩ : ByteArray)) ++ t155) ++ (⟨#[45]⟩ : ByteArray)) ++ t156)) else (none))) else (none))) else (none)) = some r := H
 have A9 := Aside0.mk A90
 clear A90
 by_cases c10 : (t152 ++ (⟨#[32, 112, 111, 114, 116, 32]⟩ : ByteArray)).size + t155.size ≤ 9223372036854775807
 rw [if_pos c10] at H
 have c10b0 := eq_true c10
 have c10b1 : decide ((t152 ++ (⟨#[32, 112, 111, 114, 116, 32]⟩ : ByteArray)).size + t155.size ≤ 9223372036854775807) = true := decide_eq_true c10
 try have c10b2 : (9223372036854775807 < (t152 ++ (⟨#[32, 112, 111, 114, 116, 32]⟩ : ByteArray)).size + t155.size) = False := eq_false (Nat.not_lt.2 c10)
 (try (have c10b5 := c10b2; simp only [ByteArray.size_append, show (⟨#[32, 112, 111, 114, 116, 32]⟩ : ByteArray).size = 6 from rfl] at c10b5))
 by_cases c11 : a1 = a2
 rw [if_pos c11] at H
 have c11b0 : (a1 == a2) = true := beq_iff_eq.mpr c11
 have c11b1 : (a1 != a2) = false := bne_eq_false_iff_eq.mpr c11
 clear c11
 obtain rfl := Option.some.inj H
 rotate_left
 rw [if_neg c11] at H
 have c11b0 : (a1 == a2) = false := beq_eq_false_iff_ne.mpr c11
 have c11b1 : (a1 != a2) = true := bne_iff_ne.mpr c11
 by_cases c12 : ((t152 ++ (⟨#[32, 112, 111, 114, 116, 32]⟩ : ByteArray)) ++ t155).size + 1 ≤ 9223372036854775807
 rw [if_pos c12] at H
 have c12b0 := eq_true c12
 have c12b1 : decide (((t152 ++ (⟨#[32, 112, 111, 114, 116, 32]⟩ : ByteArray)) ++ t155).size + 1 ≤ 9223372036854775807) = true := decide_eq_true c12
 try have c12b2 : (9223372036854775807 < ((t152 ++ (⟨#[32, 112, 111, 114, 116, 32]⟩ : ByteArray)) ++ t155).size + 1) = False := eq_false (Nat.not_lt.2 c12)
 (try (have c12b5 := c12b2; simp only [ByteArray.size_append, show (⟨#[32, 112, 111, 114, 116, 32]⟩ : ByteArray).size = 6 from rfl] at c12b5))
 replace H := Option.bind_eq_some_iff.mp H
 obtain ⟨t156, A130, H⟩ := H
 replace H : (if (((t152 ++ (⟨#[32, 112, 111, 114, 116, 32]⟩ : ByteArray)) ++ t155) ++ (⟨#[45]⟩ : ByteArray)).size + t156.size ≤ 9223372036854775807 then (some ((((t152 ++ (⟨#[32, 112, 111, 114, 116, 32]⟩ : ByteArray)) ++ t155) ++ (⟨#[45]⟩ : ByteArray)) ++ t156)) else (none)) = some r := H
 have A13 := Aside0.mk A130
 clear A130
 by_cases c14 : (((t152 ++ (⟨#[32, 112, 111, 114, 116, 32]⟩ : ByteArray)) ++ t155) ++ (⟨#[45]⟩ : ByteArray)).size + t156.size ≤ 9223372036854775807
 rw [if_pos c14] at H
 have c14b0 := eq_true c14
 have c14b1 : decide ((((t152 ++ (⟨#[32, 112, 111, 114, 116, 32]⟩ : ByteArray)) ++ t155) ++ (⟨#[45]⟩ : ByteArray)).size + t156.size ≤ 9223372036854775807) = true := decide_eq_true c14
 try have c14b2 : (9223372036854775807 < (((t152 ++ (⟨#[32, 112, 111, 114, 116, 32]⟩ : ByteArray)) ++ t155) ++ (⟨#[45]⟩ : ByteArray)).size + t156.size) = False := eq_false (Nat.not_lt.2 c14)
 (try (have c14b5 := c14b2; simp only [ByteArray.size_append, show (⟨#[32, 112, 111, 114, 116, 32]⟩ : ByteArray).size = 6 from rfl, show (⟨#[45]⟩ : ByteArray).size = 1 from rfl] at c14b5))
 obtain rfl := Option.some.inj H
 rotate_left
 rw [if_neg c14] at H
 exact absurd H (by simp)
 rw [if_neg c12] at H
 exact absurd H (by simp)
 rw [if_neg c10] at H
 exact absurd H (by simp)
 rw [if_neg c8] at H
 exact absurd H (by simp)
 rw [if_neg c4] at H
 have c4b0 : decide (0 < a0_1) = false := decide_eq_false c4
 clear c4
 replace H := Option.bind_eq_some_iff.mp H
 obtain ⟨t157, A150, H⟩ := H
 replace H : (if t157 = true then (some (⟨#[97, 110, 121]⟩ : ByteArray)) else (if 3 + 6 ≤ 9223372036854775807 then ((spec_l02Dec.f k a1).bind fun t158 => (if ((⟨#[97, 110, 121]⟩ : ByteArray) ++ (⟨#[32, 112, 111, 114, 116, 32]⟩ : ByteArray)).size + t158.size ≤ 9223372036854775807 then (if a1 = a2 then (some (((⟨#[97, 110, 121]⟩ : ByteArray) ++ (⟨#[32, 112, 111, 114, 116, 32]⟩ : ByteArray)) ++ t158)) else (if (((⟨#[97, 110, 121]⟩ : ByteArray) ++ (⟨#[32, 112, 111, 114, 116, 32]⟩ : ByteArray)) ++ t158).size + 1 ≤ 9223372036854775807 then ((spec_l02Dec.f k a2).bind fun t159 => (if ((((⟨#[97, 110, 121]⟩ : ByteArray) ++ (⟨#[32, 112, 111, 114, 116, 32]⟩ : ByteArray)) ++ t158) ++ (⟨#[45]⟩ : ByteArray)).size + t159.size ≤ 9223372036854775807 then (some (((((⟨#[97, 110, 121]⟩ : ByteArray) ++ (⟨#[32, 112, 111, 114, 116, 32]⟩ : ByteArray)) ++ t158) ++ (⟨#[45]⟩ : ByteArray)) ++ t159)) else (none))) else (none))) else (none))) else (none))) = some r := H
 have A15 := Aside0.mk A150
 clear A150
 by_cases c16 : t157 = true
 subst c16
 have H1 : (some (⟨#[97, 110, 121]⟩ : ByteArray)) = some r := by rw [if_pos rfl] at H; exact H
 clear H
 have H := H1
 clear H1
 obtain rfl := Option.some.inj H
 rotate_left
 replace c16 := Bool.eq_false_iff.mpr c16
 subst c16
 have H1 : (if 3 + 6 ≤ 9223372036854775807 then ((spec_l02Dec.f k a1).bind fun t158 => (if ((⟨#[97, 110, 121]⟩ : ByteArray) ++ (⟨#[32, 112, 111, 114, 116, 32]⟩ : ByteArray)).size + t158.size ≤ 9223372036854775807 then (if a1 = a2 then (some (((⟨#[97, 110, 121]⟩ : ByteArray) ++ (⟨#[32, 112, 111, 114, 116, 32]⟩ : ByteArray)) ++ t158)) else (if (((⟨#[97, 110, 121]⟩ : ByteArray) ++ (⟨#[32, 112, 111, 114, 116, 32]⟩ : ByteArray)) ++ t158).size + 1 ≤ 9223372036854775807 then ((spec_l02Dec.f k a2).bind fun t159 => (if ((((⟨#[97, 110, 121]⟩ : ByteArray) ++ (⟨#[32, 112, 111, 114, 116, 32]⟩ : ByteArray)) ++ t158) ++ (⟨#[45]⟩ : ByteArray)).size + t159.size ≤ 9223372036854775807 then (some (((((⟨#[97, 110, 121]⟩ : ByteArray) ++ (⟨#[32, 112, 111, 114, 116, 32]⟩ : ByteArray)) ++ t158) ++ (⟨#[45]⟩ : ByteArray)) ++ t159)) else (none))) else (none))) else (none))) else (none)) = some r := by rw [if_neg (show ¬ (false = true) by decide)] at H; exact H
 clear H
 have H := H1
 clear H1
 by_cases c17 : 3 + 6 ≤ 9223372036854775807
 rw [if_pos c17] at H
 have c17b0 := eq_true c17
 have c17b1 : decide (3 + 6 ≤ 9223372036854775807) = true := decide_eq_true c17
 try have c17b2 : (9223372036854775807 < 3 + 6) = False := eq_false (Nat.not_lt.2 c17)
 replace H := Option.bind_eq_some_iff.mp H
 obtain ⟨t158, A180, H⟩ := H
 replace H : (if ((⟨#[97, 110, 121]⟩ : ByteArray) ++ (⟨#[32, 112, 111, 114, 116, 32]⟩ : ByteArray)).size + t158.size ≤ 9223372036854775807 then (if a1 = a2 then (some (((⟨#[97, 110, 121]⟩ : ByteArray) ++ (⟨#[32, 112, 111, 114, 116, 32]⟩ : ByteArray)) ++ t158)) else (if (((⟨#[97, 110, 121]⟩ : ByteArray) ++ (⟨#[32, 112, 111, 114, 116, 32]⟩ : ByteArray)) ++ t158).size + 1 ≤ 9223372036854775807 then ((spec_l02Dec.f k a2).bind fun t159 => (if ((((⟨#[97, 110, 121]⟩ : ByteArray) ++ (⟨#[32, 112, 111, 114, 116, 32]⟩ : ByteArray)) ++ t158) ++ (⟨#[45]⟩ : ByteArray)).size + t159.size ≤ 9223372036854775807 then (some (((((⟨#[97, 110, 121]⟩ : ByteArray) ++ (⟨#[32, 112, 111, 114, 116, 32]⟩ : ByteArray)) ++ t158) ++ (⟨#[45]⟩ : ByteArray)) ++ t159)) else (none))) else (none))) else (none)) = some r := H
 have A18 := Aside0.mk A180
 clear A180
 by_cases c19 : ((⟨#[97, 110, 121]⟩ : ByteArray) ++ (⟨#[32, 112, 111, 114, 116, 32]⟩ : ByteArray)).size + t158.size ≤ 9223372036854775807
 rw [if_pos c19] at H
 have c19b0 := eq_true c19
 have c19b1 : decide (((⟨#[97, 110, 121]⟩ : ByteArray) ++ (⟨#[32, 112, 111, 114, 116, 32]⟩ : ByteArray)).size + t158.size ≤ 9223372036854775807) = true := decide_eq_true c19
 try have c19b2 : (9223372036854775807 < ((⟨#[97, 110, 121]⟩ : ByteArray) ++ (⟨#[32, 112, 111, 114, 116, 32]⟩ : ByteArray)).size + t158.size) = False := eq_false (Nat.not_lt.2 c19)
 (try (have c19b5 := c19b2; simp only [ByteArray.size_append, show (⟨#[32, 112, 111, 114, 116, 32]⟩ : ByteArray).size = 6 from rfl, show (⟨#[97, 110, 121]⟩ : ByteArray).size = 3 from rfl] at c19b5))
 by_cases c20 : a1 = a2
 rw [if_pos c20] at H
 have c20b0 : (a1 == a2) = true := beq_iff_eq.mpr c20
 have c20b1 : (a1 != a2) = false := bne_eq_false_iff_eq.mpr c20
 clear c20
 obtain rfl := Option.some.inj H
 rotate_left
 rw [if_neg c20] at H
 have c20b0 : (a1 == a2) = false := beq_eq_false_iff_ne.mpr c20
 have c20b1 : (a1 != a2) = true := bne_iff_ne.mpr c20
 by_cases c21 : (((⟨#[97, 110, 121]⟩ : ByteArray) ++ (⟨#[32, 112, 111, 114, 116, 32]⟩ : ByteArray)) ++ t158).size + 1 ≤ 9223372036854775807
 rw [if_pos c21] at H
 have c21b0 := eq_true c21
 have c21b1 : decide ((((⟨#[97, 110, 121]⟩ : ByteArray) ++ (⟨#[32, 112, 111, 114, 116, 32]⟩ : ByteArray)) ++ t158).size + 1 ≤ 9223372036854775807) = true := decide_eq_true c21
 try have c21b2 : (9223372036854775807 < (((⟨#[97, 110, 121]⟩ : ByteArray) ++ (⟨#[32, 112, 111, 114, 116, 32]⟩ : ByteArray)) ++ t158).size + 1) = False := eq_false (Nat.not_lt.2 c21)
 (try (have c21b5 := c21b2; simp only [ByteArray.size_append, show (⟨#[32, 112, 111, 114, 116, 32]⟩ : ByteArray).size = 6 from rfl, show (⟨#[97, 110, 121]⟩ : ByteArray).size = 3 from rfl] at c21b5))
 replace H := Option.bind_eq_some_iff.mp H
 obtain ⟨t159, A220, H⟩ := H
 replace H : (if ((((⟨#[97, 110, 121]⟩ : ByteArray) ++ (⟨#[32, 112, 111, 114, 116, 32]⟩ : ByteArray)) ++ t158) ++ (⟨#[45]⟩ : ByteArray)).size + t159.size ≤ 9223372036854775807 then (some (((((⟨#[97, 110, 121]⟩ : ByteArray) ++ (⟨#[32, 112, 111, 114, 116, 32]⟩ : ByteArray)) ++ t158) ++ (⟨#[45]⟩ : ByteArray)) ++ t159)) else (none)) = some r := H
 have A22 := Aside0.mk A220
 clear A220
 by_cases c23 : ((((⟨#[97, 110, 121]⟩ : ByteArray) ++ (⟨#[32, 112, 111, 114, 116, 32]⟩ : ByteArray)) ++ t158) ++ (⟨#[45]⟩ : ByteArray)).size + t159.size ≤ 9223372036854775807
 rw [if_pos c23] at H
 have c23b0 := eq_true c23
 have c23b1 : decide (((((⟨#[97, 110, 121]⟩ : ByteArray) ++ (⟨#[32, 112, 111, 114, 116, 32]⟩ : ByteArray)) ++ t158) ++ (⟨#[45]⟩ : ByteArray)).size + t159.size ≤ 9223372036854775807) = true := decide_eq_true c23
 try have c23b2 : (9223372036854775807 < ((((⟨#[97, 110, 121]⟩ : ByteArray) ++ (⟨#[32, 112, 111, 114, 116, 32]⟩ : ByteArray)) ++ t158) ++ (⟨#[45]⟩ : ByteArray)).size + t159.size) = False := eq_false (Nat.not_lt.2 c23)
 (try (have c23b5 := c23b2; simp only [ByteArray.size_append, show (⟨#[32, 112, 111, 114, 116, 32]⟩ : ByteArray).size = 6 from rfl, show (⟨#[45]⟩ : ByteArray).size = 1 from rfl, show (⟨#[97, 110, 121]⟩ : ByteArray).size = 3 from rfl] at c23b5))
 obtain rfl := Option.some.inj H
 rotate_left
 rw [if_neg c23] at H
 exact absurd H (by simp)
 rw [if_neg c21] at H
 exact absurd H (by simp)
 rw [if_neg c19] at H
 exact absurd H (by simp)
 rw [if_neg c17] at H
 exact absurd H (by simp)
 all_goals (
 go_enter Tryd.func12, Tryd.ntmps12
 )
 iterate 3 (
 focus (
 go_wp2_with (first | ((with_reducible refine gate_dst (N := 3) rfl ?_); refine box_event ?hg (N := 3) ?hd (cs := #[.int .i64 a0_0, .int .i64 a0_1]) (t := 31) ?hr ?_; (case hd => rfl); (case hg => rfl); (case hr => first | (go_simp; done) | (go_simp; rfl)); intro gb151 hg w1001 hbox hb; have n0_ := Aside0.mk (below_step wB hb); have n1_ := Aside0.mk (hbox); have n2_ := Aside0.mk ((by rw [hg]; exact (below_size wB) : w.heap.size ≤ gb151)); have n3_ := Aside0.mk ((by rw [hg]; exact (below_size wB) : w.heap.size ≤ gb151)); clear HB; have HB := n0_; have BK151 := n1_; have GW151 := n2_; have GE151 := n3_; clear n0_ n1_ n2_ n3_; clear hb hbox hg; obtain ⟨⟨hcz1002_0, hcz1002_1⟩, hfz1002_0, hfz1002_1⟩ := cells2 BK151.out) | ((with_reducible refine gate_callee (f := 22) rfl ?_); refine goesL_ (some 13) rfl rfl Tryd.func22 (by kernel_rfl) rfl #[.agg #[.int .i64 a0_0, .int .i64 a0_1]] rfl wT ?_; (with_reducible refine (spec_ShowPrefix.calls k a0_0 a0_1 t152 t153 _ A5.out).mono ?_); rintro e w1003 ⟨rfl, hb⟩; refine ⟨_, rfl, ?_⟩; have n0_ := Aside0.mk (blk_below (Bh BK151) hb); have n1_ := Aside0.mk (below_step wB hb); clear BK151; clear HB; have BK151 := n0_; have HB := n1_; clear n0_ n1_; (try clear hb); (try clear hb2); (try clear hk); (try clear hi)) | ((with_reducible refine gate_callee (f := 20) rfl ?_); refine goesL_ (some 18) rfl rfl Tryd.func20 (by kernel_rfl) rfl #[.int .i64 a1, .int .i64 a2] rfl wT ?_; (with_reducible refine (spec_l09AllPorts.calls a1 a2 _ _ A6.out).mono ?_); rintro e w' ⟨rfl, ⟨nd, rfl⟩⟩; refine ⟨_, rfl, ?_⟩) | ((with_reducible refine gate_callee (f := 23) rfl ?_); refine goesL_ (some 23) rfl rfl Tryd.func23 (by kernel_rfl) rfl #[.int .i64 a1] rfl wT ?_; (with_reducible refine (spec_l02Dec.calls k a1 t155 _ A9.out).mono ?_); rintro e w1004 ⟨rfl, hb⟩; refine ⟨_, rfl, ?_⟩; have n0_ := Aside0.mk (blk_below (Bh BK151) hb); have n1_ := Aside0.mk (below_step wB hb); clear BK151; clear HB; have BK151 := n0_; have HB := n1_; clear n0_ n1_; (try clear hb); (try clear hb2); (try clear hk); (try clear hi)) | ((with_reducible refine gate_callee (f := 23) rfl ?_); refine goesL_ (some 31) rfl rfl Tryd.func23 (by kernel_rfl) rfl #[.int .i64 a2] rfl wT ?_; (with_reducible refine (spec_l02Dec.calls k a2 t156 _ A13.out).mono ?_); rintro e w1005 ⟨rfl, hb⟩; refine ⟨_, rfl, ?_⟩; have n0_ := Aside0.mk (blk_below (Bh BK151) hb); have n1_ := Aside0.mk (below_step wB hb); clear BK151; clear HB; have BK151 := n0_; have HB := n1_; clear n0_ n1_; (try clear hb); (try clear hb2); (try clear hk); (try clear hi)))
 go_ret
 exact ⟨by first | rfl | (simp [errW_none, errW_some] <;> rfl) | (simp [*, errW_none, errW_some] <;> rfl), wB⟩
 )
 )
 all_goals (
 go_wp2_with (first | ((with_reducible refine gate_dst (N := 3) rfl ?_); refine box_event ?hg (N := 3) ?hd (cs := #[.int .i64 a0_0, .int .i64 a0_1]) (t := 31) ?hr ?_; (case hd => rfl); (case hg => rfl); (case hr => first | (go_simp; done) | (go_simp; rfl)); intro gb151 hg w1001 hbox hb; have n0_ := Aside0.mk (below_step wB hb); have n1_ := Aside0.mk (hbox); have n2_ := Aside0.mk ((by rw [hg]; exact (below_size wB) : w.heap.size ≤ gb151)); have n3_ := Aside0.mk ((by rw [hg]; exact (below_size wB) : w.heap.size ≤ gb151)); clear HB; have HB := n0_; have BK151 := n1_; have GW151 := n2_; have GE151 := n3_; clear n0_ n1_ n2_ n3_; clear hb hbox hg; obtain ⟨⟨hcz1002_0, hcz1002_1⟩, hfz1002_0, hfz1002_1⟩ := cells2 BK151.out) | ((with_reducible refine gate_callee (f := 20) rfl ?_); refine goesL_ (some 18) rfl rfl Tryd.func20 (by kernel_rfl) rfl #[.int .i64 a1, .int .i64 a2] rfl wT ?_; (with_reducible refine (spec_l09AllPorts.calls a1 a2 _ _ A15.out).mono ?_); rintro e w' ⟨rfl, ⟨nd, rfl⟩⟩; refine ⟨_, rfl, ?_⟩) | ((with_reducible refine gate_callee (f := 23) rfl ?_); refine goesL_ (some 23) rfl rfl Tryd.func23 (by kernel_rfl) rfl #[.int .i64 a1] rfl wT ?_; (with_reducible refine (spec_l02Dec.calls k a1 t158 _ A18.out).mono ?_); rintro e w1003 ⟨rfl, hb⟩; refine ⟨_, rfl, ?_⟩; have n0_ := Aside0.mk (blk_below (Bh BK151) hb); have n1_ := Aside0.mk (below_step wB hb); clear BK151; clear HB; have BK151 := n0_; have HB := n1_; clear n0_ n1_; (try clear hb); (try clear hb2); (try clear hk); (try clear hi)) | ((with_reducible refine gate_callee (f := 23) rfl ?_); refine goesL_ (some 31) rfl rfl Tryd.func23 (by kernel_rfl) rfl #[.int .i64 a2] rfl wT ?_; (with_reducible refine (spec_l02Dec.calls k a2 t159 _ A22.out).mono ?_); rintro e w1004 ⟨rfl, hb⟩; refine ⟨_, rfl, ?_⟩; have n0_ := Aside0.mk (blk_below (Bh BK151) hb); have n1_ := Aside0.mk (below_step wB hb); clear BK151; clear HB; have BK151 := n0_; have HB := n1_; clear n0_ n1_; (try clear hb); (try clear hb2); (try clear hk); (try clear hi)))
 go_ret
 exact ⟨by first | rfl | (simp [errW_none, errW_some] <;> rfl) | (simp [*, errW_none, errW_some] <;> rfl), wB⟩
 )

end Go.Proofs.YtmgapmpmmkmdhaaDoor.PFnExactShowRules
