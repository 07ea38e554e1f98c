-- Written for this claim by a program of this session (wip/mkprint.py: the print, turned at a few places). Not trusted: Lean checks it.
import Derived.Test.YtkfbcmbemihbnaaPFnLongestx0
import Derived.Test.YtkfbcmbemihbnaaPFnLongestx6
namespace Go.Proofs.Ytkfbcmbemihbnaa.PFnLongest
open Go.RowKit Go.Proofs.YtkfbcmbemihbnaaW.PrintWords Go.Proofs.YtkfbcmbemihbnaaW.PrintLast Go.Proofs.YtkfbcmbemihbnaaW.PrintMore
attribute [local go_sem] max2_int min2_int max_two min_two max_three min_three max_four min_four   -- for this text's walks alone
set_option linter.unusedVariables false
set_option linter.unusedSimpArgs false

/-! ### spec_ShowAddr: function 103 -/
def spec_ShowAddr.f (k : Nat) (a0 : Int) : Option (ByteArray × Int) := (spec_l02AddrOK.f a0).bind fun t282 => (if t282 = true then ((spec_l02Dec.f k (a0 / 16777216)).bind fun t283 => (if t283.size + 1 ≤ 9223372036854775807 then ((spec_l02Dec.f k (Go.bits .and .i64 (a0 / 65536) 255)).bind fun t284 => (if (t283 ++ (⟨#[46]⟩ : ByteArray)).size + t284.size ≤ 9223372036854775807 then (if ((t283 ++ (⟨#[46]⟩ : ByteArray)) ++ t284).size + 1 ≤ 9223372036854775807 then ((spec_l02Dec.f k (Go.bits .and .i64 (a0 / 256) 255)).bind fun t285 => (if (((t283 ++ (⟨#[46]⟩ : ByteArray)) ++ t284) ++ (⟨#[46]⟩ : ByteArray)).size + t285.size ≤ 9223372036854775807 then (if ((((t283 ++ (⟨#[46]⟩ : ByteArray)) ++ t284) ++ (⟨#[46]⟩ : ByteArray)) ++ t285).size + 1 ≤ 9223372036854775807 then ((spec_l02Dec.f k (Go.bits .and .i64 a0 255)).bind fun t286 => (if (((((t283 ++ (⟨#[46]⟩ : ByteArray)) ++ t284) ++ (⟨#[46]⟩ : ByteArray)) ++ t285) ++ (⟨#[46]⟩ : ByteArray)).size + t286.size ≤ 9223372036854775807 then (some ((((((t283 ++ (⟨#[46]⟩ : ByteArray)) ++ t284) ++ (⟨#[46]⟩ : ByteArray)) ++ t285) ++ (⟨#[46]⟩ : ByteArray)) ++ t286, 0)) else (none))) else (none)) else (none))) else (none)) else (none))) else (none))) else (some ((⟨#[]⟩ : ByteArray), 1)))
theorem spec_ShowAddr.mono : ∀ a0 k, LeO (spec_ShowAddr.f k a0) (spec_ShowAddr.f (k + 1) a0) := by
  intro a0 k
  unfold spec_ShowAddr.f
  repeat' first
      | (with_reducible exact spec_l02Dec.mono _ _)
      | (with_reducible exact LeO.refl _)
      | (with_reducible exact LeO.none _)
      | (with_reducible refine LeO.ite ?_ ?_)
      | (with_reducible refine LeO.bind ?_ (fun _ => ?_))
      | exact spec_l02Dec.mono _ _
      | exact LeO.none _
      | refine LeO.ite ?_ ?_
      | refine LeO.bind ?_ (fun _ => ?_)
set_option maxHeartbeats 60000000 in
set_option maxRecDepth 100000 in
theorem spec_ShowAddr.calls (k : Nat) (a0 : Int) (r1 : ByteArray) (r2 : Int) (w : World) (h : spec_ShowAddr.f k a0 = some (r1, r2)) :
    Calls Try.prog 103 #[.int .i64 a0] w fun e w' => e = .returned (.tuple #[.string r1, .int .i64 r2]) ∧ Below w.heap.size w w' := by
  have HB := Aside0.mk (Below.refl w.heap.size w)
  have H : ((spec_l02AddrOK.f a0).bind fun t282 => (if t282 = true then ((spec_l02Dec.f k (a0 / 16777216)).bind fun t283 => (if t283.size + 1 ≤ 9223372036854775807 then ((spec_l02Dec.f k (Go.bits .and .i64 (a0 / 65536) 255)).bind fun t284 => (if (t283 ++ (⟨#[46]⟩ : ByteArray)).size + t284.size ≤ 9223372036854775807 then (if ((t283 ++ (⟨#[46]⟩ : ByteArray)) ++ t284).size + 1 ≤ 9223372036854775807 then ((spec_l02Dec.f k (Go.bits .and .i64 (a0 / 256) 255)).bind fun t285 => (if (((t283 ++ (⟨#[46]⟩ : ByteArray)) ++ t284) ++ (⟨#[46]⟩ : ByteArray)).size + t285.size ≤ 9223372036854775807 then (if ((((t283 ++ (⟨#[46]⟩ : ByteArray)) ++ t284) ++ (⟨#[46]⟩ : ByteArray)) ++ t285).size + 1 ≤ 9223372036854775807 then ((spec_l02Dec.f k (Go.bits .and .i64 a0 255)).bind fun t286 => (if (((((t283 ++ (⟨#[46]⟩ : ByteArray)) ++ t284) ++ (⟨#[46]⟩ : ByteArray)) ++ t285) ++ (⟨#[46]⟩ : ByteArray)).size + t286.size ≤ 9223372036854775807 then (some ((((((t283 ++ (⟨#[46]⟩ : ByteArray)) ++ t284) ++ (⟨#[46]⟩ : ByteArray)) ++ t285) ++ (⟨#[46]⟩ : ByteArray)) ++ t286, 0)) else (none))) else (none)) else (none))) else (none)) else (none))) else (none))) else (some ((⟨#[]⟩ : ByteArray), 1)))) = some (r1, r2) := h
  clear h
  replace H := Option.bind_eq_some_iff.mp H
  obtain ⟨t282, A20, H⟩ := H
  replace H : (if t282 = true then ((spec_l02Dec.f k (a0 / 16777216)).bind fun t283 => (if t283.size + 1 ≤ 9223372036854775807 then ((spec_l02Dec.f k (Go.bits .and .i64 (a0 / 65536) 255)).bind fun t284 => (if (t283 ++ (⟨#[46]⟩ : ByteArray)).size + t284.size ≤ 9223372036854775807 then (if ((t283 ++ (⟨#[46]⟩ : ByteArray)) ++ t284).size + 1 ≤ 9223372036854775807 then ((spec_l02Dec.f k (Go.bits .and .i64 (a0 / 256) 255)).bind fun t285 => (if (((t283 ++ (⟨#[46]⟩ : ByteArray)) ++ t284) ++ (⟨#[46]⟩ : ByteArray)).size + t285.size ≤ 9223372036854775807 then (if ((((t283 ++ (⟨#[46]⟩ : ByteArray)) ++ t284) ++ (⟨#[46]⟩ : ByteArray)) ++ t285).size + 1 ≤ 9223372036854775807 then ((spec_l02Dec.f k (Go.bits .and .i64 a0 255)).bind fun t286 => (if (((((t283 ++ (⟨#[46]⟩ : ByteArray)) ++ t284) ++ (⟨#[46]⟩ : ByteArray)) ++ t285) ++ (⟨#[46]⟩ : ByteArray)).size + t286.size ≤ 9223372036854775807 then (some ((((((t283 ++ (⟨#[46]⟩ : ByteArray)) ++ t284) ++ (⟨#[46]⟩ : ByteArray)) ++ t285) ++ (⟨#[46]⟩ : ByteArray)) ++ t286, 0)) else (none))) else (none)) else (none))) else (none)) else (none))) else (none))) else (some ((⟨#[]⟩ : ByteArray), 1))) = some (r1, r2) := H
  have A2 := Aside0.mk A20
  clear A20
  by_cases c3 : t282 = true
  · subst c3
    have H1 : ((spec_l02Dec.f k (a0 / 16777216)).bind fun t283 => (if t283.size + 1 ≤ 9223372036854775807 then ((spec_l02Dec.f k (Go.bits .and .i64 (a0 / 65536) 255)).bind fun t284 => (if (t283 ++ (⟨#[46]⟩ : ByteArray)).size + t284.size ≤ 9223372036854775807 then (if ((t283 ++ (⟨#[46]⟩ : ByteArray)) ++ t284).size + 1 ≤ 9223372036854775807 then ((spec_l02Dec.f k (Go.bits .and .i64 (a0 / 256) 255)).bind fun t285 => (if (((t283 ++ (⟨#[46]⟩ : ByteArray)) ++ t284) ++ (⟨#[46]⟩ : ByteArray)).size + t285.size ≤ 9223372036854775807 then (if ((((t283 ++ (⟨#[46]⟩ : ByteArray)) ++ t284) ++ (⟨#[46]⟩ : ByteArray)) ++ t285).size + 1 ≤ 9223372036854775807 then ((spec_l02Dec.f k (Go.bits .and .i64 a0 255)).bind fun t286 => (if (((((t283 ++ (⟨#[46]⟩ : ByteArray)) ++ t284) ++ (⟨#[46]⟩ : ByteArray)) ++ t285) ++ (⟨#[46]⟩ : ByteArray)).size + t286.size ≤ 9223372036854775807 then (some ((((((t283 ++ (⟨#[46]⟩ : ByteArray)) ++ t284) ++ (⟨#[46]⟩ : ByteArray)) ++ t285) ++ (⟨#[46]⟩ : ByteArray)) ++ t286, 0)) else (none))) else (none)) else (none))) else (none)) else (none))) else (none))) = some (r1, r2) := by rw [if_pos rfl] at H; exact H
    clear H
    have H := H1
    clear H1
    replace H := Option.bind_eq_some_iff.mp H
    obtain ⟨t283, A40, H⟩ := H
    replace H : (if t283.size + 1 ≤ 9223372036854775807 then ((spec_l02Dec.f k (Go.bits .and .i64 (a0 / 65536) 255)).bind fun t284 => (if (t283 ++ (⟨#[46]⟩ : ByteArray)).size + t284.size ≤ 9223372036854775807 then (if ((t283 ++ (⟨#[46]⟩ : ByteArray)) ++ t284).size + 1 ≤ 9223372036854775807 then ((spec_l02Dec.f k (Go.bits .and .i64 (a0 / 256) 255)).bind fun t285 => (if (((t283 ++ (⟨#[46]⟩ : ByteArray)) ++ t284) ++ (⟨#[46]⟩ : ByteArray)).size + t285.size ≤ 9223372036854775807 then (if ((((t283 ++ (⟨#[46]⟩ : ByteArray)) ++ t284) ++ (⟨#[46]⟩ : ByteArray)) ++ t285).size + 1 ≤ 9223372036854775807 then ((spec_l02Dec.f k (Go.bits .and .i64 a0 255)).bind fun t286 => (if (((((t283 ++ (⟨#[46]⟩ : ByteArray)) ++ t284) ++ (⟨#[46]⟩ : ByteArray)) ++ t285) ++ (⟨#[46]⟩ : ByteArray)).size + t286.size ≤ 9223372036854775807 then (some ((((((t283 ++ (⟨#[46]⟩ : ByteArray)) ++ t284) ++ (⟨#[46]⟩ : ByteArray)) ++ t285) ++ (⟨#[46]⟩ : ByteArray)) ++ t286, 0)) else (none))) else (none)) else (none))) else (none)) else (none))) else (none)) = some (r1, r2) := H
    have A4 := Aside0.mk A40
    clear A40
    by_cases c5 : t283.size + 1 ≤ 9223372036854775807
    · rw [if_pos c5] at H
      have c5b0 := eq_true c5
      have c5b1 : decide (t283.size + 1 ≤ 9223372036854775807) = true := decide_eq_true c5
      try have c5b2 : (9223372036854775807 < t283.size + 1) = False := eq_false (Nat.not_lt.2 c5)
      replace H := Option.bind_eq_some_iff.mp H
      obtain ⟨t284, A60, H⟩ := H
      replace H : (if (t283 ++ (⟨#[46]⟩ : ByteArray)).size + t284.size ≤ 9223372036854775807 then (if ((t283 ++ (⟨#[46]⟩ : ByteArray)) ++ t284).size + 1 ≤ 9223372036854775807 then ((spec_l02Dec.f k (Go.bits .and .i64 (a0 / 256) 255)).bind fun t285 => (if (((t283 ++ (⟨#[46]⟩ : ByteArray)) ++ t284) ++ (⟨#[46]⟩ : ByteArray)).size + t285.size ≤ 9223372036854775807 then (if ((((t283 ++ (⟨#[46]⟩ : ByteArray)) ++ t284) ++ (⟨#[46]⟩ : ByteArray)) ++ t285).size + 1 ≤ 9223372036854775807 then ((spec_l02Dec.f k (Go.bits .and .i64 a0 255)).bind fun t286 => (if (((((t283 ++ (⟨#[46]⟩ : ByteArray)) ++ t284) ++ (⟨#[46]⟩ : ByteArray)) ++ t285) ++ (⟨#[46]⟩ : ByteArray)).size + t286.size ≤ 9223372036854775807 then (some ((((((t283 ++ (⟨#[46]⟩ : ByteArray)) ++ t284) ++ (⟨#[46]⟩ : ByteArray)) ++ t285) ++ (⟨#[46]⟩ : ByteArray)) ++ t286, 0)) else (none))) else (none)) else (none))) else (none)) else (none)) = some (r1, r2) := H
      have A6 := Aside0.mk A60
      clear A60
      by_cases c7 : (t283 ++ (⟨#[46]⟩ : ByteArray)).size + t284.size ≤ 9223372036854775807
      · rw [if_pos c7] at H
        have c7b0 := eq_true c7
        have c7b1 : decide ((t283 ++ (⟨#[46]⟩ : ByteArray)).size + t284.size ≤ 9223372036854775807) = true := decide_eq_true c7
        try have c7b2 : (9223372036854775807 < (t283 ++ (⟨#[46]⟩ : ByteArray)).size + t284.size) = False := eq_false (Nat.not_lt.2 c7)
        (try (have c7b5 := c7b2; simp only [ByteArray.size_append, show (⟨#[46]⟩ : ByteArray).size = 1 from rfl] at c7b5))
        by_cases c8 : ((t283 ++ (⟨#[46]⟩ : ByteArray)) ++ t284).size + 1 ≤ 9223372036854775807
        · rw [if_pos c8] at H
          have c8b0 := eq_true c8
          have c8b1 : decide (((t283 ++ (⟨#[46]⟩ : ByteArray)) ++ t284).size + 1 ≤ 9223372036854775807) = true := decide_eq_true c8
          try have c8b2 : (9223372036854775807 < ((t283 ++ (⟨#[46]⟩ : ByteArray)) ++ t284).size + 1) = False := eq_false (Nat.not_lt.2 c8)
          (try (have c8b5 := c8b2; simp only [ByteArray.size_append, show (⟨#[46]⟩ : ByteArray).size = 1 from rfl] at c8b5))
          replace H := Option.bind_eq_some_iff.mp H
          obtain ⟨t285, A90, H⟩ := H
          replace H : (if (((t283 ++ (⟨#[46]⟩ : ByteArray)) ++ t284) ++ (⟨#[46]⟩ : ByteArray)).size + t285.size ≤ 9223372036854775807 then (if ((((t283 ++ (⟨#[46]⟩ : ByteArray)) ++ t284) ++ (⟨#[46]⟩ : ByteArray)) ++ t285).size + 1 ≤ 9223372036854775807 then ((spec_l02Dec.f k (Go.bits .and .i64 a0 255)).bind fun t286 => (if (((((t283 ++ (⟨#[46]⟩ : ByteArray)) ++ t284) ++ (⟨#[46]⟩ : ByteArray)) ++ t285) ++ (⟨#[46]⟩ : ByteArray)).size + t286.size ≤ 9223372036854775807 then (some ((((((t283 ++ (⟨#[46]⟩ : ByteArray)) ++ t284) ++ (⟨#[46]⟩ : ByteArray)) ++ t285) ++ (⟨#[46]⟩ : ByteArray)) ++ t286, 0)) else (none))) else (none)) else (none)) = some (r1, r2) := H
          have A9 := Aside0.mk A90
          clear A90
          by_cases c10 : (((t283 ++ (⟨#[46]⟩ : ByteArray)) ++ t284) ++ (⟨#[46]⟩ : ByteArray)).size + t285.size ≤ 9223372036854775807
          · rw [if_pos c10] at H
            have c10b0 := eq_true c10
            have c10b1 : decide ((((t283 ++ (⟨#[46]⟩ : ByteArray)) ++ t284) ++ (⟨#[46]⟩ : ByteArray)).size + t285.size ≤ 9223372036854775807) = true := decide_eq_true c10
            try have c10b2 : (9223372036854775807 < (((t283 ++ (⟨#[46]⟩ : ByteArray)) ++ t284) ++ (⟨#[46]⟩ : ByteArray)).size + t285.size) = False := eq_false (Nat.not_lt.2 c10)
            (try (have c10b5 := c10b2; simp only [ByteArray.size_append, show (⟨#[46]⟩ : ByteArray).size = 1 from rfl] at c10b5))
            by_cases c11 : ((((t283 ++ (⟨#[46]⟩ : ByteArray)) ++ t284) ++ (⟨#[46]⟩ : ByteArray)) ++ t285).size + 1 ≤ 9223372036854775807
            · rw [if_pos c11] at H
              have c11b0 := eq_true c11
              have c11b1 : decide (((((t283 ++ (⟨#[46]⟩ : ByteArray)) ++ t284) ++ (⟨#[46]⟩ : ByteArray)) ++ t285).size + 1 ≤ 9223372036854775807) = true := decide_eq_true c11
              try have c11b2 : (9223372036854775807 < ((((t283 ++ (⟨#[46]⟩ : ByteArray)) ++ t284) ++ (⟨#[46]⟩ : ByteArray)) ++ t285).size + 1) = False := eq_false (Nat.not_lt.2 c11)
              (try (have c11b5 := c11b2; simp only [ByteArray.size_append, show (⟨#[46]⟩ : ByteArray).size = 1 from rfl] at c11b5))
              replace H := Option.bind_eq_some_iff.mp H
              obtain ⟨t286, A120, H⟩ := H
              replace H : (if (((((t283 ++ (⟨#[46]⟩ : ByteArray)) ++ t284) ++ (⟨#[46]⟩ : ByteArray)) ++ t285) ++ (⟨#[46]⟩ : ByteArray)).size + t286.size ≤ 9223372036854775807 then (some ((((((t283 ++ (⟨#[46]⟩ : ByteArray)) ++ t284) ++ (⟨#[46]⟩ : ByteArray)) ++ t285) ++ (⟨#[46]⟩ : ByteArray)) ++ t286, 0)) else (none)) = some (r1, r2) := H
              have A12 := Aside0.mk A120
              clear A120
              by_cases c13 : (((((t283 ++ (⟨#[46]⟩ : ByteArray)) ++ t284) ++ (⟨#[46]⟩ : ByteArray)) ++ t285) ++ (⟨#[46]⟩ : ByteArray)).size + t286.size ≤ 9223372036854775807
              · rw [if_pos c13] at H
                have c13b0 := eq_true c13
                have c13b1 : decide ((((((t283 ++ (⟨#[46]⟩ : ByteArray)) ++ t284) ++ (⟨#[46]⟩ : ByteArray)) ++ t285) ++ (⟨#[46]⟩ : ByteArray)).size + t286.size ≤ 9223372036854775807) = true := decide_eq_true c13
                try have c13b2 : (9223372036854775807 < (((((t283 ++ (⟨#[46]⟩ : ByteArray)) ++ t284) ++ (⟨#[46]⟩ : ByteArray)) ++ t285) ++ (⟨#[46]⟩ : ByteArray)).size + t286.size) = False := eq_false (Nat.not_lt.2 c13)
                (try (have c13b5 := c13b2; simp only [ByteArray.size_append, show (⟨#[46]⟩ : ByteArray).size = 1 from rfl] at c13b5))
                simp only [Option.some.injEq, Prod.mk.injEq] at H
                obtain ⟨rfl, rfl⟩ := H
                go_enter Try.func103, Try.ntmps103
                go_wp2_with (first | ((with_reducible refine gate_callee (f := 106) rfl ?_); refine goesL_ (some 5) rfl rfl Try.func106 (by kernel_rfl) rfl #[.int .i64 a0] rfl wT ?_; (with_reducible refine (spec_l02AddrOK.calls a0 true _ A2.out).mono ?_); rintro e w' ⟨rfl, ⟨nd, rfl⟩⟩; refine ⟨_, rfl, ?_⟩) | ((with_reducible refine gate_callee (f := 104) rfl ?_); refine goesL_ (some 9) rfl rfl Try.func104 (by kernel_rfl) rfl #[.int .i64 (a0 / 16777216)] rfl wT ?_; (with_reducible refine (spec_l02Dec.calls k (a0 / 16777216) t283 _ A4.out).mono ?_); rintro e w1001 ⟨rfl, hb⟩; refine ⟨_, rfl, ?_⟩; have n0_ := Aside0.mk (below_step wB hb); clear HB; have HB := n0_; clear n0_; (try clear hb); (try clear hb2); (try clear hk); (try clear hi)) | ((with_reducible refine gate_callee (f := 104) rfl ?_); refine goesL_ (some 14) rfl rfl Try.func104 (by kernel_rfl) rfl #[.int .i64 (Go.bits .and .i64 (a0 / 65536) 255)] rfl wT ?_; (with_reducible refine (spec_l02Dec.calls k (Go.bits .and .i64 (a0 / 65536) 255) t284 _ A6.out).mono ?_); rintro e w1002 ⟨rfl, hb⟩; refine ⟨_, rfl, ?_⟩; have n0_ := Aside0.mk (below_step wB hb); clear HB; have HB := n0_; clear n0_; (try clear hb); (try clear hb2); (try clear hk); (try clear hi)) | ((with_reducible refine gate_callee (f := 104) rfl ?_); refine goesL_ (some 20) rfl rfl Try.func104 (by kernel_rfl) rfl #[.int .i64 (Go.bits .and .i64 (a0 / 256) 255)] rfl wT ?_; (with_reducible refine (spec_l02Dec.calls k (Go.bits .and .i64 (a0 / 256) 255) t285 _ A9.out).mono ?_); rintro e w1003 ⟨rfl, hb⟩; refine ⟨_, rfl, ?_⟩; have n0_ := Aside0.mk (below_step wB hb); clear HB; have HB := n0_; clear n0_; (try clear hb); (try clear hb2); (try clear hk); (try clear hi)) | ((with_reducible refine gate_callee (f := 104) rfl ?_); refine goesL_ (some 25) rfl rfl Try.func104 (by kernel_rfl) rfl #[.int .i64 (Go.bits .and .i64 a0 255)] rfl wT ?_; (with_reducible refine (spec_l02Dec.calls k (Go.bits .and .i64 a0 255) t286 _ A12.out).mono ?_); rintro e w1004 ⟨rfl, hb⟩; refine ⟨_, rfl, ?_⟩; have n0_ := Aside0.mk (below_step wB hb); clear HB; have HB := n0_; clear n0_; (try clear hb); (try clear hb2); (try clear hk); (try clear hi)))
                go_ret2
                exact ⟨by first | rfl | (simp [errW_none, errW_some] <;> rfl) | (simp [*, errW_none, errW_some] <;> rfl), wB⟩
              · rw [if_neg c13] at H
                exact absurd H (by simp)
            · rw [if_neg c11] at H
              exact absurd H (by simp)
          · rw [if_neg c10] at H
            exact absurd H (by simp)
        · rw [if_neg c8] at H
          exact absurd H (by simp)
      · rw [if_neg c7] at H
        exact absurd H (by simp)
    · rw [if_neg c5] at H
      exact absurd H (by simp)
  · replace c3 := Bool.eq_false_iff.mpr c3
    subst c3
    have H1 : (some ((⟨#[]⟩ : ByteArray), 1)) = some (r1, r2) := by rw [if_neg (show ¬ (false = true) by decide)] at H; exact H
    clear H
    have H := H1
    clear H1
    simp only [Option.some.injEq, Prod.mk.injEq] at H
    obtain ⟨rfl, rfl⟩ := H
    go_enter Try.func103, Try.ntmps103
    go_wp2_with (first | ((with_reducible refine gate_callee (f := 106) rfl ?_); refine goesL_ (some 5) rfl rfl Try.func106 (by kernel_rfl) rfl #[.int .i64 a0] rfl wT ?_; (with_reducible refine (spec_l02AddrOK.calls a0 false _ A2.out).mono ?_); rintro e w' ⟨rfl, ⟨nd, rfl⟩⟩; refine ⟨_, rfl, ?_⟩))
    go_ret2
    exact ⟨by first | rfl | (simp [errW_none, errW_some] <;> rfl) | (simp [*, errW_none, errW_some] <;> rfl), wB⟩

/-! ### spec_ShowPrefix: function 102 -/
def spec_ShowPrefix.f (k : Nat) (a0_0 : Int) (a0_1 : Int) : Option (ByteArray × Int) := (spec_l02PrefixOK.f k a0_0 a0_1).bind fun t288 => (if t288 = true then ((spec_ShowAddr.f k a0_0).bind fun bt289 => (if bt289.1.size + 1 ≤ 9223372036854775807 then ((spec_l02Dec.f k a0_1).bind fun t291 => (if (bt289.1 ++ (⟨#[47]⟩ : ByteArray)).size + t291.size ≤ 9223372036854775807 then (some ((bt289.1 ++ (⟨#[47]⟩ : ByteArray)) ++ t291, 0)) else (none))) else (none))) else (some ((⟨#[]⟩ : ByteArray), 1)))
theorem spec_ShowPrefix.mono : ∀ a0 a1 k, LeO (spec_ShowPrefix.f k a0 a1) (spec_ShowPrefix.f (k + 1) a0 a1) := by
  intro a0 a1 k
  unfold spec_ShowPrefix.f
  repeat' first
      | (with_reducible exact spec_ShowAddr.mono _ _)
      | (with_reducible exact spec_l02Dec.mono _ _)
      | (with_reducible exact spec_l02PrefixOK.mono _ _ _)
      | (with_reducible exact LeO.refl _)
      | (with_reducible exact LeO.none _)
      | (with_reducible refine LeO.ite ?_ ?_)
      | (with_reducible refine LeO.bind ?_ (fun _ => ?_))
      | exact spec_ShowAddr.mono _ _
      | exact spec_l02Dec.mono _ _
      | exact spec_l02PrefixOK.mono _ _ _
      | exact LeO.none _
      | refine LeO.ite ?_ ?_
      | refine LeO.bind ?_ (fun _ => ?_)
set_option maxHeartbeats 60000000 in
set_option maxRecDepth 100000 in
theorem spec_ShowPrefix.calls (k : Nat) (a0_0 : Int) (a0_1 : Int) (r1 : ByteArray) (r2 : Int) (w : World) (h : spec_ShowPrefix.f k a0_0 a0_1 = some (r1, r2)) :
    Calls Try.prog 102 #[.agg #[.int .i64 a0_0, .int .i64 a0_1]] w fun e w' => e = .returned (.tuple #[.string r1, .int .i64 r2]) ∧ Below w.heap.size w w' := by
  have hu74 := Try.underlying74
  have HB := Aside0.mk (Below.refl w.heap.size w)
  have H : ((spec_l02PrefixOK.f k a0_0 a0_1).bind fun t288 => (if t288 = true then ((spec_ShowAddr.f k a0_0).bind fun bt289 => (if bt289.1.size + 1 ≤ 9223372036854775807 then ((spec_l02Dec.f k a0_1).bind fun t291 => (if (bt289.1 ++ (⟨#[47]⟩ : ByteArray)).size + t291.size ≤ 9223372036854775807 then (some ((bt289.1 ++ (⟨#[47]⟩ : ByteArray)) ++ t291, 0)) else (none))) else (none))) else (some ((⟨#[]⟩ : ByteArray), 1)))) = some (r1, r2) := h
  clear h
  replace H := Option.bind_eq_some_iff.mp H
  obtain ⟨t288, A20, H⟩ := H
  replace H : (if t288 = true then ((spec_ShowAddr.f k a0_0).bind fun bt289 => (if bt289.1.size + 1 ≤ 9223372036854775807 then ((spec_l02Dec.f k a0_1).bind fun t291 => (if (bt289.1 ++ (⟨#[47]⟩ : ByteArray)).size + t291.size ≤ 9223372036854775807 then (some ((bt289.1 ++ (⟨#[47]⟩ : ByteArray)) ++ t291, 0)) else (none))) else (none))) else (some ((⟨#[]⟩ : ByteArray), 1))) = some (r1, r2) := H
  have A2 := Aside0.mk A20
  clear A20
  by_cases c3 : t288 = true
  · subst c3
    have H1 : ((spec_ShowAddr.f k a0_0).bind fun bt289 => (if bt289.1.size + 1 ≤ 9223372036854775807 then ((spec_l02Dec.f k a0_1).bind fun t291 => (if (bt289.1 ++ (⟨#[47]⟩ : ByteArray)).size + t291.size ≤ 9223372036854775807 then (some ((bt289.1 ++ (⟨#[47]⟩ : ByteArray)) ++ t291, 0)) else (none))) else (none))) = some (r1, r2) := by rw [if_pos rfl] at H; exact H
    clear H
    have H := H1
    clear H1
    replace H := Option.bind_eq_some_iff.mp H
    obtain ⟨⟨t289, t290⟩, A40, H⟩ := H
    replace H : (if t289.size + 1 ≤ 9223372036854775807 then ((spec_l02Dec.f k a0_1).bind fun t291 => (if (t289 ++ (⟨#[47]⟩ : ByteArray)).size + t291.size ≤ 9223372036854775807 then (some ((t289 ++ (⟨#[47]⟩ : ByteArray)) ++ t291, 0)) else (none))) else (none)) = some (r1, r2) := H
    have A4 := Aside0.mk A40
    clear A40
    by_cases c5 : t289.size + 1 ≤ 9223372036854775807
    · rw [if_pos c5] at H
      have c5b0 := eq_true c5
      have c5b1 : decide (t289.size + 1 ≤ 9223372036854775807) = true := decide_eq_true c5
      try have c5b2 : (9223372036854775807 < t289.size + 1) = False := eq_false (Nat.not_lt.2 c5)
      replace H := Option.bind_eq_some_iff.mp H
      obtain ⟨t291, A60, H⟩ := H
      replace H : (if (t289 ++ (⟨#[47]⟩ : ByteArray)).size + t291.size ≤ 9223372036854775807 then (some ((t289 ++ (⟨#[47]⟩ : ByteArray)) ++ t291, 0)) else (none)) = some (r1, r2) := H
      have A6 := Aside0.mk A60
      clear A60
      by_cases c7 : (t289 ++ (⟨#[47]⟩ : ByteArray)).size + t291.size ≤ 9223372036854775807
      · rw [if_pos c7] at H
        have c7b0 := eq_true c7
        have c7b1 : decide ((t289 ++ (⟨#[47]⟩ : ByteArray)).size + t291.size ≤ 9223372036854775807) = true := decide_eq_true c7
        try have c7b2 : (9223372036854775807 < (t289 ++ (⟨#[47]⟩ : ByteArray)).size + t291.size) = False := eq_false (Nat.not_lt.2 c7)
        (try (have c7b5 := c7b2; simp only [ByteArray.size_append, show (⟨#[47]⟩ : ByteArray).size = 1 from rfl] at c7b5))
        simp only [Option.some.injEq, Prod.mk.injEq] at H
        obtain ⟨rfl, rfl⟩ := H
        go_enter Try.func102, Try.ntmps102
        go_wp2_with (first | ((with_reducible refine gate_dst (N := 1) rfl ?_); refine box_event ?hg (N := 1) ?hd (cs := #[.int .i64 a0_0, .int .i64 a0_1]) (t := 74) ?hr ?_; (case hd => rfl); (case hg => rfl); (case hr => first | (go_simp; done) | (go_simp; rfl)); intro gb287 hg w1001 hbox hb; have n0_ := Aside0.mk (below_step wB hb); have n1_ := Aside0.mk (hbox); have n2_ := Aside0.mk ((by rw [hg]; exact (below_size wB) : w.heap.size ≤ gb287)); have n3_ := Aside0.mk ((by rw [hg]; exact (below_size wB) : w.heap.size ≤ gb287)); clear HB; have HB := n0_; have BK287 := n1_; have GW287 := n2_; have GE287 := n3_; clear n0_ n1_ n2_ n3_; clear hb hbox hg; obtain ⟨⟨hcz1002_0, hcz1002_1⟩, hfz1002_0, hfz1002_1⟩ := cells2 BK287.out) | ((with_reducible refine gate_callee (f := 105) rfl ?_); refine goesL_ (some 7) rfl rfl Try.func105 (by kernel_rfl) rfl #[.agg #[.int .i64 a0_0, .int .i64 a0_1]] rfl wT ?_; (with_reducible refine (spec_l02PrefixOK.calls k a0_0 a0_1 true _ A2.out).mono ?_); rintro e w1003 ⟨rfl, hb⟩; refine ⟨_, rfl, ?_⟩; have n0_ := Aside0.mk (blk_below (Bh BK287) hb); have n1_ := Aside0.mk (below_step wB hb); clear BK287; clear HB; have BK287 := n0_; have HB := n1_; clear n0_ n1_; (try clear hb); (try clear hb2); (try clear hk); (try clear hi); obtain ⟨⟨hcz1004_0, hcz1004_1⟩, hfz1004_0, hfz1004_1⟩ := cells2 BK287.out) | ((with_reducible refine gate_callee (f := 103) rfl ?_); refine goesL_ (some 12) rfl rfl Try.func103 (by kernel_rfl) rfl #[.int .i64 a0_0] rfl wT ?_; (with_reducible refine (spec_ShowAddr.calls k a0_0 t289 t290 _ A4.out).mono ?_); rintro e w1005 ⟨rfl, hb⟩; refine ⟨_, rfl, ?_⟩; have n0_ := Aside0.mk (blk_below (Bh BK287) hb); have n1_ := Aside0.mk (below_step wB hb); clear BK287; clear HB; have BK287 := n0_; have HB := n1_; clear n0_ n1_; (try clear hb); (try clear hb2); (try clear hk); (try clear hi); obtain ⟨⟨hcz1006_0, hcz1006_1⟩, hfz1006_0, hfz1006_1⟩ := cells2 BK287.out) | ((with_reducible refine gate_callee (f := 104) rfl ?_); refine goesL_ (some 19) rfl rfl Try.func104 (by kernel_rfl) rfl #[.int .i64 a0_1] rfl wT ?_; (with_reducible refine (spec_l02Dec.calls k a0_1 t291 _ A6.out).mono ?_); rintro e w1007 ⟨rfl, hb⟩; refine ⟨_, rfl, ?_⟩; have n0_ := Aside0.mk (blk_below (Bh BK287) hb); have n1_ := Aside0.mk (below_step wB hb); clear BK287; clear HB; have BK287 := n0_; have HB := n1_; clear n0_ n1_; (try clear hb); (try clear hb2); (try clear hk); (try clear hi)))
        go_ret2
        exact ⟨by first | rfl | (simp [errW_none, errW_some] <;> rfl) | (simp [*, errW_none, errW_some] <;> rfl), wB⟩
      · rw [if_neg c7] at H
        exact absurd H (by simp)
    · rw [if_neg c5] at H
      exact absurd H (by simp)
  · replace c3 := Bool.eq_false_iff.mpr c3
    subst c3
    have H1 : (some ((⟨#[]⟩ : ByteArray), 1)) = some (r1, r2) := by rw [if_neg (show ¬ (false = true) by decide)] at H; exact H
    clear H
    have H := H1
    clear H1
    simp only [Option.some.injEq, Prod.mk.injEq] at H
    obtain ⟨rfl, rfl⟩ := H
    go_enter Try.func102, Try.ntmps102
    go_wp2_with (first | ((with_reducible refine gate_dst (N := 1) rfl ?_); refine box_event ?hg (N := 1) ?hd (cs := #[.int .i64 a0_0, .int .i64 a0_1]) (t := 74) ?hr ?_; (case hd => rfl); (case hg => rfl); (case hr => first | (go_simp; done) | (go_simp; rfl)); intro gb287 hg w1001 hbox hb; have n0_ := Aside0.mk (below_step wB hb); have n1_ := Aside0.mk (hbox); have n2_ := Aside0.mk ((by rw [hg]; exact (below_size wB) : w.heap.size ≤ gb287)); have n3_ := Aside0.mk ((by rw [hg]; exact (below_size wB) : w.heap.size ≤ gb287)); clear HB; have HB := n0_; have BK287 := n1_; have GW287 := n2_; have GE287 := n3_; clear n0_ n1_ n2_ n3_; clear hb hbox hg; obtain ⟨⟨hcz1002_0, hcz1002_1⟩, hfz1002_0, hfz1002_1⟩ := cells2 BK287.out) | ((with_reducible refine gate_callee (f := 105) rfl ?_); refine goesL_ (some 7) rfl rfl Try.func105 (by kernel_rfl) rfl #[.agg #[.int .i64 a0_0, .int .i64 a0_1]] rfl wT ?_; (with_reducible refine (spec_l02PrefixOK.calls k a0_0 a0_1 false _ A2.out).mono ?_); rintro e w1003 ⟨rfl, hb⟩; refine ⟨_, rfl, ?_⟩; have n0_ := Aside0.mk (blk_below (Bh BK287) hb); have n1_ := Aside0.mk (below_step wB hb); clear BK287; clear HB; have BK287 := n0_; have HB := n1_; clear n0_ n1_; (try clear hb); (try clear hb2); (try clear hk); (try clear hi)))
    go_ret2
    exact ⟨by first | rfl | (simp [errW_none, errW_some] <;> rfl) | (simp [*, errW_none, errW_some] <;> rfl), wB⟩

/-! ### spec_ShowRoutes: function 45 -/
mutual
def spec_ShowRoutes.l0 : Nat → List (S76) → ByteArray → Int → Option (ByteArray × Int)
  | 0, _, _, _ => none
  | k + 1, x0, x4, x5 => if x5 < (x0.length : Int) then (if 0 ≤ x5 then ((spec_l08OK.f k ((rd_T76 x0 x5).f0.f0) ((rd_T76 x0 x5).f0.f1) ((rd_T76 x0 x5).f1) ((rd_T76 x0 x5).f2) ((rd_T76 x0 x5).f3)).bind fun t294 => (if t294 = true then ((spec_ShowPrefix.f k ((rd_T76 x0 x5).f0.f0) ((rd_T76 x0 x5).f0.f1)).bind fun bt295 => (if x4.size + bt295.1.size ≤ 9223372036854775807 then (if ((rd_T76 x0 x5).f1) = 0 then (spec_ShowRoutes.j1 k x0 (x4 ++ bt295.1) x5 ((rd_T76 x0 x5).f0.f0) ((rd_T76 x0 x5).f0.f1) ((rd_T76 x0 x5).f1) ((rd_T76 x0 x5).f2) ((rd_T76 x0 x5).f3)) else ((spec_ShowAddr.f k ((rd_T76 x0 x5).f1)).bind fun bt297 => (if (x4 ++ bt295.1).size + 5 ≤ 9223372036854775807 then (if ((x4 ++ bt295.1) ++ (⟨#[32, 118, 105, 97, 32]⟩ : ByteArray)).size + bt297.1.size ≤ 9223372036854775807 then (spec_ShowRoutes.j1 k x0 (((x4 ++ bt295.1) ++ (⟨#[32, 118, 105, 97, 32]⟩ : ByteArray)) ++ bt297.1) x5 ((rd_T76 x0 x5).f0.f0) ((rd_T76 x0 x5).f0.f1) ((rd_T76 x0 x5).f1) ((rd_T76 x0 x5).f2) ((rd_T76 x0 x5).f3)) else (none)) else (none)))) else (none))) else (some ((⟨#[]⟩ : ByteArray), 1)))) else (none)) else (some (x4, 0))
def spec_ShowRoutes.j1 : Nat → List (S76) → ByteArray → Int → Int → Int → Int → Int → Int → Option (ByteArray × Int)
  | 0, _, _, _, _, _, _, _, _ => none
  | k + 1, x0, x4, x5, x294000, x294001, x294002, x294003, x294004 => if x4.size + 6 ≤ 9223372036854775807 then ((spec_l02Dec.f k x294003).bind fun t299 => (if (x4 ++ (⟨#[32, 108, 105, 110, 107, 32]⟩ : ByteArray)).size + t299.size ≤ 9223372036854775807 then (if x294004 = 0 then (if ((x4 ++ (⟨#[32, 108, 105, 110, 107, 32]⟩ : ByteArray)) ++ t299).size + 1 ≤ 9223372036854775807 then (spec_ShowRoutes.l0 k x0 (((x4 ++ (⟨#[32, 108, 105, 110, 107, 32]⟩ : ByteArray)) ++ t299) ++ (⟨#[10]⟩ : ByteArray)) (wrap64 (x5 + 1))) else (none)) else (if ((x4 ++ (⟨#[32, 108, 105, 110, 107, 32]⟩ : ByteArray)) ++ t299).size + 8 ≤ 9223372036854775807 then ((spec_l02Dec.f k x294004).bind fun t300 => (if (((x4 ++ (⟨#[32, 108, 105, 110, 107, 32]⟩ : ByteArray)) ++ t299) ++ (⟨#[32, 109, 101, 116, 114, 105, 99, 32]⟩ : ByteArray)).size + t300.size ≤ 9223372036854775807 then (if ((((x4 ++ (⟨#[32, 108, 105, 110, 107, 32]⟩ : ByteArray)) ++ t299) ++ (⟨#[32, 109, 101, 116, 114, 105, 99, 32]⟩ : ByteArray)) ++ t300).size + 1 ≤ 9223372036854775807 then (spec_ShowRoutes.l0 k x0 (((((x4 ++ (⟨#[32, 108, 105, 110, 107, 32]⟩ : ByteArray)) ++ t299) ++ (⟨#[32, 109, 101, 116, 114, 105, 99, 32]⟩ : ByteArray)) ++ t300) ++ (⟨#[10]⟩ : ByteArray)) (wrap64 (x5 + 1))) else (none)) else (none))) else (none))) else (none))) else (none)
end
def spec_ShowRoutes.f (k : Nat) (l0 : List (S76)) : Option (ByteArray × Int) := if (l0.length : Int) > 64 then (some ((⟨#[]⟩ : ByteArray), 8)) else (spec_ShowRoutes.l0 k l0 (⟨#[]⟩ : ByteArray) 0)
theorem spec_ShowRoutes.mono_l : ∀ k, (∀ y0 y1 y2, LeO (spec_ShowRoutes.l0 k y0 y1 y2) (spec_ShowRoutes.l0 (k + 1) y0 y1 y2)) ∧ (∀ y0 y1 y2 y3 y4 y5 y6 y7, LeO (spec_ShowRoutes.j1 k y0 y1 y2 y3 y4 y5 y6 y7) (spec_ShowRoutes.j1 (k + 1) y0 y1 y2 y3 y4 y5 y6 y7))
  | 0 => ⟨fun _ _ _ r h => by simp [spec_ShowRoutes.l0] at h, fun _ _ _ _ _ _ _ _ r h => by simp [spec_ShowRoutes.j1] at h⟩
  | k + 1 => by
    obtain ⟨ih0, ih1⟩ := spec_ShowRoutes.mono_l k
    refine ⟨?_, ?_⟩
    · intro y0 y1 y2
      unfold spec_ShowRoutes.l0
      repeat' first
      | (with_reducible exact ih0 _ _ _)
      | (with_reducible exact ih1 _ _ _ _ _ _ _ _)
      | (with_reducible exact spec_ShowAddr.mono _ _)
      | (with_reducible exact spec_ShowPrefix.mono _ _ _)
      | (with_reducible exact spec_l02Dec.mono _ _)
      | (with_reducible exact spec_l08OK.mono _ _ _ _ _ _)
      | (with_reducible exact LeO.refl _)
      | (with_reducible exact LeO.none _)
      | (with_reducible refine LeO.ite ?_ ?_)
      | (with_reducible refine LeO.bind ?_ (fun _ => ?_))
      | exact ih0 _ _ _
      | exact ih1 _ _ _ _ _ _ _ _
      | exact spec_ShowAddr.mono _ _
      | exact spec_ShowPrefix.mono _ _ _
      | exact spec_l02Dec.mono _ _
      | exact spec_l08OK.mono _ _ _ _ _ _
      | exact LeO.none _
      | refine LeO.ite ?_ ?_
      | refine LeO.bind ?_ (fun _ => ?_)
    · intro y0 y1 y2 y3 y4 y5 y6 y7
      unfold spec_ShowRoutes.j1
      repeat' first
      | (with_reducible exact ih0 _ _ _)
      | (with_reducible exact ih1 _ _ _ _ _ _ _ _)
      | (with_reducible exact spec_ShowAddr.mono _ _)
      | (with_reducible exact spec_ShowPrefix.mono _ _ _)
      | (with_reducible exact spec_l02Dec.mono _ _)
      | (with_reducible exact spec_l08OK.mono _ _ _ _ _ _)
      | (with_reducible exact LeO.refl _)
      | (with_reducible exact LeO.none _)
      | (with_reducible refine LeO.ite ?_ ?_)
      | (with_reducible refine LeO.bind ?_ (fun _ => ?_))
      | exact ih0 _ _ _
      | exact ih1 _ _ _ _ _ _ _ _
      | exact spec_ShowAddr.mono _ _
      | exact spec_ShowPrefix.mono _ _ _
      | exact spec_l02Dec.mono _ _
      | exact spec_l08OK.mono _ _ _ _ _ _
      | exact LeO.none _
      | refine LeO.ite ?_ ?_
      | refine LeO.bind ?_ (fun _ => ?_)
theorem spec_ShowRoutes.mono : ∀ a0 k, LeO (spec_ShowRoutes.f k a0) (spec_ShowRoutes.f (k + 1) a0) := by
 intro a0 k
 obtain ⟨ih0, ih1⟩ := spec_ShowRoutes.mono_l k
 unfold spec_ShowRoutes.f
 repeat' first
     | (with_reducible exact ih0 _ _ _)
     | (with_reducible exact ih1 _ _ _ _ _ _ _ _)
     | (with_reducible exact spec_ShowAddr.mono _ _)
     | (with_reducible exact spec_ShowPrefix.mono _ _ _)
     | (with_reducible exact spec_l02Dec.mono _ _)
     | (with_reducible exact spec_l08OK.mono _ _ _ _ _ _)
     | (with_reducible exact LeO.refl _)
     | (with_reducible exact LeO.none _)
     | (with_reducible refine LeO.ite ?_ ?_)
     | (with_reducible refine LeO.bind ?_ (fun _ => ?_))
     | exact ih0 _ _ _
     | exact ih1 _ _ _ _ _ _ _ _
     | exact spec_ShowAddr.mono _ _
     | exact spec_ShowPrefix.mono _ _ _
     | exact spec_l02Dec.mono _ _
     | exact spec_l08OK.mono _ _ _ _ _ _
     | exact LeO.none _
     | refine LeO.ite ?_ ?_
     | refine LeO.bind ?_ (fun _ => ?_)
set_option maxHeartbeats 60000000 in
set_option maxRecDepth 100000 in
theorem spec_ShowRoutes.calls (k : Nat) (A0 : Option Addr) (c0 : Nat) (l0 : List (S76)) (r1 : ByteArray) (r2 : Int) (w : World) (hr0 : Kd.C k76 w A0 l0.length l0) (hc0 : l0.length ≤ c0) (h : spec_ShowRoutes.f k l0 = some (r1, r2)) :
 Calls Try.prog 45 #[.slice A0 l0.length c0] w fun e w' => e = .returned (.tuple #[.string r1, .int .i64 r2]) ∧ Below w.heap.size w w' := by
 have hu76 := Try.underlying76
 have hu74 := Try.underlying74
 have HR0 := Aside0.mk hr0
 have HC0 := Aside0.mk hc0
 clear hr0 hc0
 have HB := Aside0.mk (Below.refl w.heap.size w)
 have H : (if (l0.length : Int) > 64 then (some ((⟨#[]⟩ : ByteArray), 8)) else (spec_ShowRoutes.l0 k l0 (⟨#[]⟩ : ByteArray) 0)) = some (r1, r2) := h
 clear h
 by_cases c2 : (l0.length : Int) > 64
 {
 rw [if_pos c2] at H
 have c2b0 : decide (64 < (l0.length : Int)) = true := decide_eq_true c2
 have c2b1 : decide (64 < l0.length) = true := decide_eq_true (by omega)
 clear c2
 simp only [Option.some.injEq, Prod.mk.injEq] at H
 obtain ⟨rfl, rfl⟩ := H
 go_enter Try.func45, Try.ntmps45
 go_wp2
 go_ret2
 exact ⟨by first | rfl | (simp [errW_none, errW_some] <;> rfl) | (simp [*, errW_none, errW_some] <;> rfl), wB⟩
 }
 {
 rw [if_neg c2] at H
 have c2b0 : decide (64 < (l0.length : Int)) = false := decide_eq_false c2
 have c2b1 : decide (64 < l0.length) = false := decide_eq_false (by omega)
 clear c2
 have H' := Aside0.mk H
 clear H
 go_enter Try.func45, Try.ntmps45
 go_wp2
 go_loopg [4, 5] k (fun kq v4 v5 w' => ∃ (x4_1 : ByteArray) (x5_1 : Int), v4 = .string x4_1 ∧ v5 = .int .i64 x5_1 ∧ Aside0 (spec_ShowRoutes.l0 kq l0 x4_1 x5_1 = some (r1, r2)) ∧ Aside0 (kq ≤ k) ∧ Aside0 (Below w.heap.size w w'))
 case atStart => exact ⟨((⟨#[]⟩ : ByteArray)), (0), (by first | rfl | (simp; done) | (simp [*]; done)), (by first | rfl | (simp; done) | (simp [*]; done)), H', ⟨Nat.le_refl _⟩, ⟨wB⟩⟩
 case round => (
 clear H'
 try clear c2
 try clear c2b0
 try clear c2b1
 try clear p2
 obtain ⟨x4_1, x5_1, rfl, rfl, HA, HK1, HB⟩ := hrel
 cases gk with
 | zero => exact absurd HA.out (by simp [spec_ShowRoutes.l0])
 | succ k1 => {
 have H := HA.out
 clear HA
 simp only [spec_ShowRoutes.l0] at H
 by_cases c1001 : x5_1 < (l0.length : Int)
 rw [if_pos c1001] at H
 have c1001b0 : decide (x5_1 < (l0.length : Int)) = true := decide_eq_true c1001
 clear c1001
 by_cases c1002 : 0 ≤ x5_1
 rw [if_pos c1002] at H
 have c1002b0 : decide (0 ≤ x5_1) = true := decide_eq_true c1002
 clear c1002
 replace H := Option.bind_eq_some_iff.mp H
 obtain ⟨t294, A10030, H⟩ := H
 replace H : (if t294 = true then ((spec_ShowPrefix.f k1 ((rd_T76 l0 x5_1).f0.f0) ((rd_T76 l0 x5_1).f0.f1)).bind fun bt295 => (if x4_1.size + bt295.1.size ≤ 9223372036854775807 then (if ((rd_T76 l0 x5_1).f1) = 0 then (spec_ShowRoutes.j1 k1 l0 (x4_1 ++ bt295.1) x5_1 ((rd_T76 l0 x5_1).f0.f0) ((rd_T76 l0 x5_1).f0.f1) ((rd_T76 l0 x5_1).f1) ((rd_T76 l0 x5_1).f2) ((rd_T76 l0 x5_1).f3)) else ((spec_ShowAddr.f k1 ((rd_T76 l0 x5_1).f1)).bind fun bt297 => (if (x4_1 ++ bt295.1).size + 5 ≤ 9223372036854775807 then (if ((x4_1 ++ bt295.1) ++ (⟨#[32, 118, 105, 97, 32]⟩ : ByteArray)).size + bt297.1.size ≤ 9223372036854775807 then (spec_ShowRoutes.j1 k1 l0 (((x4_1 ++ bt295.1) ++ (⟨#[32, 118, 105, 97, 32]⟩ : ByteArray)) ++ bt297.1) x5_1 ((rd_T76 l0 x5_1).f0.f0) ((rd_T76 l0 x5_1).f0.f1) ((rd_T76 l0 x5_1).f1) ((rd_T76 l0 x5_1).f2) ((rd_T76 l0 x5_1).f3)) else (none)) else (none)))) else (none))) else (some ((⟨#[]⟩ : ByteArray), 1))) = some (r1, r2) := H
 have A1003 := Aside0.mk A10030
 clear A10030
 by_cases c1004 : t294 = true
 subst c1004
 have H1 : ((spec_ShowPrefix.f k1 ((rd_T76 l0 x5_1).f0.f0) ((rd_T76 l0 x5_1).f0.f1)).bind fun bt295 => (if x4_1.size + bt295.1.size ≤ 9223372036854775807 then (if ((rd_T76 l0 x5_1).f1) = 0 then (spec_ShowRoutes.j1 k1 l0 (x4_1 ++ bt295.1) x5_1 ((rd_T76 l0 x5_1).f0.f0) ((rd_T76 l0 x5_1).f0.f1) ((rd_T76 l0 x5_1).f1) ((rd_T76 l0 x5_1).f2) ((rd_T76 l0 x5_1).f3)) else ((spec_ShowAddr.f k1 ((rd_T76 l0 x5_1).f1)).bind fun bt297 => (if (x4_1 ++ bt295.1).size + 5 ≤ 9223372036854775807 then (if ((x4_1 ++ bt295.1) ++ (⟨#[32, 118, 105, 97, 32]⟩ : ByteArray)).size + bt297.1.size ≤ 9223372036854775807 then (spec_ShowRoutes.j1 k1 l0 (((x4_1 ++ bt295.1) ++ (⟨#[32, 118, 105, 97, 32]⟩ : ByteArray)) ++ bt297.1) x5_1 ((rd_T76 l0 x5_1).f0.f0) ((rd_T76 l0 x5_1).f0.f1) ((rd_T76 l0 x5_1).f1) ((rd_T76 l0 x5_1).f2) ((rd_T76 l0 x5_1).f3)) else (none)) else (none)))) else (none))) = some (r1, r2) := by rw [if_pos rfl] at H; exact H
 clear H
 have H := H1
 clear H1
 replace H := Option.bind_eq_some_iff.mp H
 obtain ⟨⟨t295, t296⟩, A10050, H⟩ := H
 replace H : (if x4_1.size + t295.size ≤ 9223372036854775807 then (if ((rd_T76 l0 x5_1).f1) = 0 then (spec_ShowRoutes.j1 k1 l0 (x4_1 ++ t295) x5_1 ((rd_T76 l0 x5_1).f0.f0) ((rd_T76 l0 x5_1).f0.f1) ((rd_T76 l0 x5_1).f1) ((rd_T76 l0 x5_1).f2) ((rd_T76 l0 x5_1).f3)) else ((spec_ShowAddr.f k1 ((rd_T76 l0 x5_1).f1)).bind fun bt297 => (if (x4_1 ++ t295).size + 5 ≤ 9223372036854775807 then (if ((x4_1 ++ t295) ++ (⟨#[32, 118, 105, 97, 32]⟩ : ByteArray)).size + bt297.1.size ≤ 9223372036854775807 then (spec_ShowRoutes.j1 k1 l0 (((x4_1 ++ t295) ++ (⟨#[32, 118, 105, 97, 32]⟩ : ByteArray)) ++ bt297.1) x5_1 ((rd_T76 l0 x5_1).f0.f0) ((rd_T76 l0 x5_1).f0.f1) ((rd_T76 l0 x5_1).f1) ((rd_T76 l0 x5_1).f2) ((rd_T76 l0 x5_1).f3)) else (none)) else (none)))) else (none)) = some (r1, r2) := H
 have A1005 := Aside0.mk A10050
 clear A10050
 by_cases c1006 : x4_1.size + t295.size ≤ 9223372036854775807
 rw [if_pos c1006] at H
 have c1006b0 := eq_true c1006
 have c1006b1 : decide (x4_1.size + t295.size ≤ 9223372036854775807) = true := decide_eq_true c1006
 try have c1006b2 : (9223372036854775807 < x4_1.size + t295.size) = False := eq_false (Nat.not_lt.2 c1006)
 have HC1007 := Aside0.mk H
 clear H
 rotate_left
 rw [if_neg c1006] at H
 exact absurd H (by simp)
 replace c1004 := Bool.eq_false_iff.mpr c1004
 subst c1004
 have H1 : (some ((⟨#[]⟩ : ByteArray), 1)) = some (r1, r2) := by rw [if_neg (show ¬ (false = true) by decide)] at H; exact H
 clear H
 have H := H1
 clear H1
 simp only [Option.some.injEq, Prod.mk.injEq] at H
 obtain ⟨rfl, rfl⟩ := H
 rotate_left
 rw [if_neg c1002] at H
 exact absurd H (by simp)
 rw [if_neg c1001] at H
 have c1001b0 : decide (x5_1 < (l0.length : Int)) = false := decide_eq_false c1001
 clear c1001
 simp only [Option.some.injEq, Prod.mk.injEq] at H
 obtain ⟨rfl, rfl⟩ := H
 rotate_left
 iterate 2 (
 focus (
 have p292 : 0 ≤ (x5_1 : Int) := of_decide_eq_true (by first | (with_reducible assumption) | assumption)
 have q292 : x5_1 < (l0.length : Int) := of_decide_eq_true (by first | (with_reducible assumption) | assumption)
 obtain ⟨ad292, e292, hx292_0, hx292_1, hx292_2, hx292_3, hx292_4⟩ := at_T76 HR0.out x5_1 p292 q292
 cases e292
 replace hx292_0 := (HB.out.cell (World.block_lt_of_cell? w _ hx292_0)).trans hx292_0
 replace hx292_1 := (HB.out.cell (World.block_lt_of_cell? w _ hx292_1)).trans hx292_1
 replace hx292_2 := (HB.out.cell (World.block_lt_of_cell? w _ hx292_2)).trans hx292_2
 replace hx292_3 := (HB.out.cell (World.block_lt_of_cell? w _ hx292_3)).trans hx292_3
 replace hx292_4 := (HB.out.cell (World.block_lt_of_cell? w _ hx292_4)).trans hx292_4
 replace p292 := eq_true p292
 replace q292 := eq_true q292
 )
 rotate_left
 )
 rotate_right 2
 {
 go_upto_if 38 with (first | ((with_reducible refine gate_dst (N := 6) rfl ?_); refine box_event ?hg (N := 6) ?hd (cs := #[.int .i64 0, .int .i64 0, .int .i64 0, .int .i64 0, .int .i64 0]) (t := 76) ?hr ?_; (case hd => rfl); (case hg => rfl); (case hr => first | (go_simp; done) | (go_simp; rfl)); intro gb293 hg w2001 hbox hb; have n0_ := Aside0.mk (below_step wB hb); have n1_ := Aside0.mk (hbox); have n2_ := Aside0.mk ((by rw [hg]; exact (below_size wB) : w.heap.size ≤ gb293)); have n3_ := Aside0.mk ((by rw [hg]; exact (below_size wB) : w.heap.size ≤ gb293)); clear HB; have HB := n0_; have BK293 := n1_; have GW293 := n2_; have GE293 := n3_; clear n0_ n1_ n2_ n3_; clear hb hbox hg; obtain ⟨⟨hcz2002_0, hcz2002_1, hcz2002_2, hcz2002_3, hcz2002_4⟩, hfz2002_0, hfz2002_1, hfz2002_2, hfz2002_3, hfz2002_4⟩ := cells5 BK293.out) | ((with_reducible refine gate_store (t := 76) (p := 6) rfl ?_); refine store_event (t := 76) (p := 6) (v := ?_) (w1 := (((((w2001.setCell ⟨gb293, 0, none⟩ (.int .i64 ((rd_T76 l0 x5_1).f0.f0))).setCell ⟨gb293, 1, none⟩ (.int .i64 ((rd_T76 l0 x5_1).f0.f1))).setCell ⟨gb293, 2, none⟩ (.int .i64 ((rd_T76 l0 x5_1).f1))).setCell ⟨gb293, 3, none⟩ (.int .i64 ((rd_T76 l0 x5_1).f2))).setCell ⟨gb293, 4, none⟩ (.int .i64 ((rd_T76 l0 x5_1).f3)))) ?hg ?ho ?hn ?hr ?_; (case ho => rfl); (case hg => rfl); (case hn => rfl); (case hr => first | (go_simp; done) | (go_simp; rfl)); intro w2003 hw; have n0_ : Aside0 (w2003.heap[gb293]? = some (.cells #[.int .i64 ((rd_T76 l0 x5_1).f0.f0), .int .i64 ((rd_T76 l0 x5_1).f0.f1), .int .i64 ((rd_T76 l0 x5_1).f1), .int .i64 ((rd_T76 l0 x5_1).f2), .int .i64 ((rd_T76 l0 x5_1).f3)] 76 (0, 0))) := ⟨(by rw [hw]; exact (by (with_reducible repeat (first | refine blk_drewN ?_ _ | refine blk_drew ?_ | refine blk_alloc ?_ _)); refine blk_put (cs := #[.int .i64 ((rd_T76 l0 x5_1).f0.f0), .int .i64 ((rd_T76 l0 x5_1).f0.f1), .int .i64 ((rd_T76 l0 x5_1).f1), .int .i64 ((rd_T76 l0 x5_1).f2), .int .i64 0]) ?_ 4 _ rfl; (with_reducible repeat (first | refine blk_drewN ?_ _ | refine blk_drew ?_ | refine blk_alloc ?_ _)); refine blk_put (cs := #[.int .i64 ((rd_T76 l0 x5_1).f0.f0), .int .i64 ((rd_T76 l0 x5_1).f0.f1), .int .i64 ((rd_T76 l0 x5_1).f1), .int .i64 0, .int .i64 0]) ?_ 3 _ rfl; (with_reducible repeat (first | refine blk_drewN ?_ _ | refine blk_drew ?_ | refine blk_alloc ?_ _)); refine blk_put (cs := #[.int .i64 ((rd_T76 l0 x5_1).f0.f0), .int .i64 ((rd_T76 l0 x5_1).f0.f1), .int .i64 0, .int .i64 0, .int .i64 0]) ?_ 2 _ rfl; (with_reducible repeat (first | refine blk_drewN ?_ _ | refine blk_drew ?_ | refine blk_alloc ?_ _)); refine blk_put (cs := #[.int .i64 ((rd_T76 l0 x5_1).f0.f0), .int .i64 0, .int .i64 0, .int .i64 0, .int .i64 0]) ?_ 1 _ rfl; (with_reducible repeat (first | refine blk_drewN ?_ _ | refine blk_drew ?_ | refine blk_alloc ?_ _)); refine blk_put (cs := #[.int .i64 0, .int .i64 0, .int .i64 0, .int .i64 0, .int .i64 0]) ?_ 0 _ rfl; (with_reducible repeat (first | refine blk_drewN ?_ _ | refine blk_drew ?_ | refine blk_alloc ?_ _)); exact BK293.out))⟩; have n1_ : Aside0 (Below w.heap.size w w2003) := ⟨(by rw [hw]; exact wB)⟩; clear hw; clear BK293; clear HB; have BK293 := n0_; have HB := n1_; clear n0_ n1_; obtain ⟨⟨hcz2004_0, hcz2004_1, hcz2004_2, hcz2004_3, hcz2004_4⟩, hfz2004_0, hfz2004_1, hfz2004_2, hfz2004_3, hfz2004_4⟩ := cells5 BK293.out) | ((with_reducible refine gate_callee (f := 101) rfl ?_); refine goesL_ (some 25) rfl rfl Try.func101 (by kernel_rfl) rfl #[.agg #[.int .i64 ((rd_T76 l0 x5_1).f0.f0), .int .i64 ((rd_T76 l0 x5_1).f0.f1), .int .i64 ((rd_T76 l0 x5_1).f1), .int .i64 ((rd_T76 l0 x5_1).f2), .int .i64 ((rd_T76 l0 x5_1).f3)]] rfl wT ?_; (with_reducible refine (spec_l08OK.calls k1 ((rd_T76 l0 x5_1).f0.f0) ((rd_T76 l0 x5_1).f0.f1) ((rd_T76 l0 x5_1).f1) ((rd_T76 l0 x5_1).f2) ((rd_T76 l0 x5_1).f3) true _ A1003.out).mono ?_); rintro e w2005 ⟨rfl, hb⟩; refine ⟨_, rfl, ?_⟩; have n0_ := Aside0.mk (blk_below (Bh BK293) hb); have n1_ := Aside0.mk (below_step wB hb); clear BK293; clear HB; have BK293 := n0_; have HB := n1_; clear n0_ n1_; (try clear hb); (try clear hb2); (try clear hk); (try clear hi); obtain ⟨⟨hcz2006_0, hcz2006_1, hcz2006_2, hcz2006_3, hcz2006_4⟩, hfz2006_0, hfz2006_1, hfz2006_2, hfz2006_3, hfz2006_4⟩ := cells5 BK293.out) | ((with_reducible refine gate_callee (f := 102) rfl ?_); refine goesL_ (some 30) rfl rfl Try.func102 (by kernel_rfl) rfl #[.agg #[.int .i64 ((rd_T76 l0 x5_1).f0.f0), .int .i64 ((rd_T76 l0 x5_1).f0.f1)]] rfl wT ?_; (with_reducible refine (spec_ShowPrefix.calls k1 ((rd_T76 l0 x5_1).f0.f0) ((rd_T76 l0 x5_1).f0.f1) t295 t296 _ A1005.out).mono ?_); rintro e w2007 ⟨rfl, hb⟩; refine ⟨_, rfl, ?_⟩; have n0_ := Aside0.mk (blk_below (Bh BK293) hb); have n1_ := Aside0.mk (below_step wB hb); clear BK293; clear HB; have BK293 := n0_; have HB := n1_; clear n0_ n1_; (try clear hb); (try clear hb2); (try clear hk); (try clear hi); obtain ⟨⟨hcz2008_0, hcz2008_1, hcz2008_2, hcz2008_3, hcz2008_4⟩, hfz2008_0, hfz2008_1, hfz2008_2, hfz2008_3, hfz2008_4⟩ := cells5 BK293.out))
 (try simp only [Act.put, List.setIfInBounds_toArray, List.set_cons_zero, List.set_cons_succ])
 go_cut [4] (fun v4 wc => ∃ (kq : Nat) (x4_1006 : ByteArray), v4 = .string x4_1006 ∧ Aside0 (spec_ShowRoutes.j1 kq l0 x4_1006 x5_1 ((rd_T76 l0 x5_1).f0.f0) ((rd_T76 l0 x5_1).f0.f1) ((rd_T76 l0 x5_1).f1) ((rd_T76 l0 x5_1).f2) ((rd_T76 l0 x5_1).f3) = some (r1, r2)) ∧ Aside0 (kq ≤ k1) ∧ Aside0 (wc.heap[gb293]? = some (.cells #[.int .i64 ((rd_T76 l0 x5_1).f0.f0), .int .i64 ((rd_T76 l0 x5_1).f0.f1), .int .i64 ((rd_T76 l0 x5_1).f1), .int .i64 ((rd_T76 l0 x5_1).f2), .int .i64 ((rd_T76 l0 x5_1).f3)] 76 (0, 0))) ∧ Aside0 (Below w.heap.size w wc))
 case first => (
 have H := HC1007.out
 clear HC1007
 by_cases c2009 : ((rd_T76 l0 x5_1).f1) = 0
 {
 rw [if_pos c2009] at H
 have c2009b0 : (((rd_T76 l0 x5_1).f1) == 0) = true := beq_iff_eq.mpr c2009
 have c2009b1 : (((rd_T76 l0 x5_1).f1) != 0) = false := bne_eq_false_iff_eq.mpr c2009
 clear c2009
 (first | rw [c2009b0] | (simp only [i64_w, i32_w]; rw [c2009b0]) | skip)
 have H' := Aside0.mk H
 clear H
 go_wp2
 go_meet
 case rel => exact ⟨_, (x4_1 ++ t295), (by first | rfl | (simp; done) | (simp [*]; done)), H', ⟨by have := HK1.out; first | omega | exact Nat.le_refl _⟩, ⟨Bh BK293⟩, ⟨wB⟩⟩
 }
 {
 rw [if_neg c2009] at H
 have c2009b0 : (((rd_T76 l0 x5_1).f1) == 0) = false := beq_eq_false_iff_ne.mpr c2009
 have c2009b1 : (((rd_T76 l0 x5_1).f1) != 0) = true := bne_iff_ne.mpr c2009
 (first | rw [c2009b0] | (simp only [i64_w, i32_w]; rw [c2009b0]) | skip)
 replace H := Option.bind_eq_some_iff.mp H
 obtain ⟨⟨t297, t298⟩, A20100, H⟩ := H
 replace H : (if (x4_1 ++ t295).size + 5 ≤ 9223372036854775807 then (if ((x4_1 ++ t295) ++ (⟨#[32, 118, 105, 97, 32]⟩ : ByteArray)).size + t297.size ≤ 9223372036854775807 then (spec_ShowRoutes.j1 k1 l0 (((x4_1 ++ t295) ++ (⟨#[32, 118, 105, 97, 32]⟩ : ByteArray)) ++ t297) x5_1 ((rd_T76 l0 x5_1).f0.f0) ((rd_T76 l0 x5_1).f0.f1) ((rd_T76 l0 x5_1).f1) ((rd_T76 l0 x5_1).f2) ((rd_T76 l0 x5_1).f3)) else (none)) else (none)) = some (r1, r2) := H
 have A2010 := Aside0.mk A20100
 clear A20100
 by_cases c2011 : (x4_1 ++ t295).size + 5 ≤ 9223372036854775807
 {
 rw [if_pos c2011] at H
 have c2011b0 := eq_true c2011
 have c2011b1 : decide ((x4_1 ++ t295).size + 5 ≤ 9223372036854775807) = true := decide_eq_true c2011
 try have c2011b2 : (9223372036854775807 < (x4_1 ++ t295).size + 5) = False := eq_false (Nat.not_lt.2 c2011)
 (try (have c2011b5 := c2011b2; simp only [ByteArray.size_append] at c2011b5))
 by_cases c2012 : ((x4_1 ++ t295) ++ (⟨#[32, 118, 105, 97, 32]⟩ : ByteArray)).size + t297.size ≤ 9223372036854775807
 {
 rw [if_pos c2012] at H
 have c2012b0 := eq_true c2012
 have c2012b1 : decide (((x4_1 ++ t295) ++ (⟨#[32, 118, 105, 97, 32]⟩ : ByteArray)).size + t297.size ≤ 9223372036854775807) = true := decide_eq_true c2012
 try have c2012b2 : (9223372036854775807 < ((x4_1 ++ t295) ++ (⟨#[32, 118, 105, 97, 32]⟩ : ByteArray)).size + t297.size) = False := eq_false (Nat.not_lt.2 c2012)
 (try (have c2012b5 := c2012b2; simp only [ByteArray.size_append, show (⟨#[32, 118, 105, 97, 32]⟩ : ByteArray).size = 5 from rfl] at c2012b5))
 have H' := Aside0.mk H
 clear H
 obtain ⟨⟨hcz3001_0, hcz3001_1, hcz3001_2, hcz3001_3, hcz3001_4⟩, hfz3001_0, hfz3001_1, hfz3001_2, hfz3001_3, hfz3001_4⟩ := cells5 BK293.out
 go_wp2_with (first | ((with_reducible refine gate_callee (f := 103) rfl ?_); refine goesL_ (some 42) rfl rfl Try.func103 (by kernel_rfl) rfl #[.int .i64 ((rd_T76 l0 x5_1).f1)] rfl wT ?_; (with_reducible refine (spec_ShowAddr.calls k1 ((rd_T76 l0 x5_1).f1) t297 t298 _ A2010.out).mono ?_); rintro e w3002 ⟨rfl, hb⟩; refine ⟨_, rfl, ?_⟩; have n0_ := Aside0.mk (blk_below (Bh BK293) hb); have n1_ := Aside0.mk (below_step wB hb); clear BK293; clear HB; have BK293 := n0_; have HB := n1_; clear n0_ n1_; (try clear hb); (try clear hb2); (try clear hk); (try clear hi)))
 go_meet
 case rel => exact ⟨_, (((x4_1 ++ t295) ++ (⟨#[32, 118, 105, 97, 32]⟩ : ByteArray)) ++ t297), (by first | rfl | (simp; done) | (simp [*]; done)), H', ⟨by have := HK1.out; first | omega | exact Nat.le_refl _⟩, ⟨Bh BK293⟩, ⟨wB⟩⟩
 }
 {
 rw [if_neg c2012] at H
 exact absurd H (by simp)
 }
 }
 {
 rw [if_neg c2011] at H
 exact absurd H (by simp)
 }
 }
 )
 case rest => (
 clear HC1007
 try clear c2
 try clear c2b0
 try clear c2b1
 try clear p2
 try clear q2
 try clear hx2
 try clear p292
 try clear q292
 try clear hx292
 try clear c1001
 try clear c1001b0
 try clear c1002
 try clear c1002b0
 try clear c1004
 try clear c1006
 try clear c1006b0
 try clear c1006b1
 try clear c1006b2
 try clear c2009
 try clear c2009b0
 try clear c2009b1
 try clear c2011
 try clear c2011b0
 try clear c2011b1
 try clear c2011b2
 try clear c2012
 try clear c2012b0
 try clear c2012b1
 try clear c2012b2
 try clear hcz2002_0 hcz2002_1 hcz2002_2 hcz2002_3 hcz2002_4 hfz2002_0 hfz2002_1 hfz2002_2 hfz2002_3 hfz2002_4
 try clear hcz2004_0 hcz2004_1 hcz2004_2 hcz2004_3 hcz2004_4 hfz2004_0 hfz2004_1 hfz2004_2 hfz2004_3 hfz2004_4
 try clear hcz2006_0 hcz2006_1 hcz2006_2 hcz2006_3 hcz2006_4 hfz2006_0 hfz2006_1 hfz2006_2 hfz2006_3 hfz2006_4
 try clear hcz2008_0 hcz2008_1 hcz2008_2 hcz2008_3 hcz2008_4 hfz2008_0 hfz2008_1 hfz2008_2 hfz2008_3 hfz2008_4
 try clear hcz3001_0 hcz3001_1 hcz3001_2 hcz3001_3 hcz3001_4 hfz3001_0 hfz3001_1 hfz3001_2 hfz3001_3 hfz3001_4
 try clear hx292_0
 try clear hx292_1
 try clear hx292_2
 try clear hx292_3
 try clear hx292_4
 try clear p2
 try clear p292
 try clear q292
 obtain ⟨kq, x4_1006, rfl, HA, HJ1006, BK293, HB⟩ := hcut
 cases kq with
 | zero => exact absurd HA.out (by simp [spec_ShowRoutes.j1])
 | succ kj1006 => {
 have H := HA.out
 clear HA
 simp only [spec_ShowRoutes.j1] at H
 by_cases c2013 : x4_1006.size + 6 ≤ 9223372036854775807
 rw [if_pos c2013] at H
 have c2013b0 := eq_true c2013
 have c2013b1 : decide (x4_1006.size + 6 ≤ 9223372036854775807) = true := decide_eq_true c2013
 try have c2013b2 : (9223372036854775807 < x4_1006.size + 6) = False := eq_false (Nat.not_lt.2 c2013)
 replace H := Option.bind_eq_some_iff.mp H
 obtain ⟨t299, A20140, H⟩ := H
 replace H : (if (x4_1006 ++ (⟨#[32, 108, 105, 110, 107, 32]⟩ : ByteArray)).size + t299.size ≤ 9223372036854775807 then (if ((rd_T76 l0 x5_1).f3) = 0 then (if ((x4_1006 ++ (⟨#[32, 108, 105, 110, 107, 32]⟩ : ByteArray)) ++ t299).size + 1 ≤ 9223372036854775807 then (spec_ShowRoutes.l0 kj1006 l0 (((x4_1006 ++ (⟨#[32, 108, 105, 110, 107, 32]⟩ : ByteArray)) ++ t299) ++ (⟨#[10]⟩ : ByteArray)) (wrap64 (x5_1 + 1))) else (none)) else (if ((x4_1006 ++ (⟨#[32, 108, 105, 110, 107, 32]⟩ : ByteArray)) ++ t299).size + 8 ≤ 9223372036854775807 then ((spec_l02Dec.f kj1006 ((rd_T76 l0 x5_1).f3)).bind fun t300 => (if (((x4_1006 ++ (⟨#[32, 108, 105, 110, 107, 32]⟩ : ByteArray)) ++ t299) ++ (⟨#[32, 109, 101, 116, 114, 105, 99, 32]⟩ : ByteArray)).size + t300.size ≤ 9223372036854775807 then (if ((((x4_1006 ++ (⟨#[32, 108, 105, 110, 107, 32]⟩ : ByteArray)) ++ t299) ++ (⟨#[32, 109, 101, 116, 114, 105, 99, 32]⟩ : ByteArray)) ++ t300).size + 1 ≤ 9223372036854775807 then (spec_ShowRoutes.l0 kj1006 l0 (((((x4_1006 ++ (⟨#[32, 108, 105, 110, 107, 32]⟩ : ByteArray)) ++ t299) ++ (⟨#[32, 109, 101, 116, 114, 105, 99, 32]⟩ : ByteArray)) ++ t300) ++ (⟨#[10]⟩ : ByteArray)) (wrap64 (x5_1 + 1))) else (none)) else (none))) else (none))) else (none)) = some (r1, r2) := H
 have A2014 := Aside0.mk A20140
 clear A20140
 by_cases c2015 : (x4_1006 ++ (⟨#[32, 108, 105, 110, 107, 32]⟩ : ByteArray)).size + t299.size ≤ 9223372036854775807
 rw [if_pos c2015] at H
 have c2015b0 := eq_true c2015
 have c2015b1 : decide ((x4_1006 ++ (⟨#[32, 108, 105, 110, 107, 32]⟩ : ByteArray)).size + t299.size ≤ 9223372036854775807) = true := decide_eq_true c2015
 try have c2015b2 : (9223372036854775807 < (x4_1006 ++ (⟨#[32, 108, 105, 110, 107, 32]⟩ : ByteArray)).size + t299.size) = False := eq_false (Nat.not_lt.2 c2015)
 (try (have c2015b5 := c2015b2; simp only [ByteArray.size_append, show (⟨#[32, 108, 105, 110, 107, 32]⟩ : ByteArray).size = 6 from rfl] at c2015b5))
 by_cases c2016 : ((rd_T76 l0 x5_1).f3) = 0
 rw [if_pos c2016] at H
 have c2016b0 : (((rd_T76 l0 x5_1).f3) == 0) = true := beq_iff_eq.mpr c2016
 have c2016b1 : (((rd_T76 l0 x5_1).f3) != 0) = false := bne_eq_false_iff_eq.mpr c2016
 clear c2016
 by_cases c2017 : ((x4_1006 ++ (⟨#[32, 108, 105, 110, 107, 32]⟩ : ByteArray)) ++ t299).size + 1 ≤ 9223372036854775807
 rw [if_pos c2017] at H
 have c2017b0 := eq_true c2017
 have c2017b1 : decide (((x4_1006 ++ (⟨#[32, 108, 105, 110, 107, 32]⟩ : ByteArray)) ++ t299).size + 1 ≤ 9223372036854775807) = true := decide_eq_true c2017
 try have c2017b2 : (9223372036854775807 < ((x4_1006 ++ (⟨#[32, 108, 105, 110, 107, 32]⟩ : ByteArray)) ++ t299).size + 1) = False := eq_false (Nat.not_lt.2 c2017)
 (try (have c2017b5 := c2017b2; simp only [ByteArray.size_append, show (⟨#[32, 108, 105, 110, 107, 32]⟩ : ByteArray).size = 6 from rfl] at c2017b5))
 have H' := Aside0.mk H
 clear H
 rotate_left
 rw [if_neg c2017] at H
 exact absurd H (by simp)
 rw [if_neg c2016] at H
 have c2016b0 : (((rd_T76 l0 x5_1).f3) == 0) = false := beq_eq_false_iff_ne.mpr c2016
 have c2016b1 : (((rd_T76 l0 x5_1).f3) != 0) = true := bne_iff_ne.mpr c2016
 by_cases c2018 : ((x4_1006 ++ (⟨#[32, 108, 105, 110, 107, 32]⟩ : ByteArray)) ++ t299).size + 8 ≤ 9223372036854775807
 rw [if_pos c2018] at H
 have c2018b0 := eq_true c2018
 have c2018b1 : decide (((x4_1006 ++ (⟨#[32, 108, 105, 110, 107, 32]⟩ : ByteArray)) ++ t299).size + 8 ≤ 9223372036854775807) = true := decide_eq_true c2018
 try have c2018b2 : (9223372036854775807 < ((x4_1006 ++ (⟨#[32, 108, 105, 110, 107, 32]⟩ : ByteArray)) ++ t299).size + 8) = False := eq_false (Nat.not_lt.2 c2018)
 (try (have c2018b5 := c2018b2; simp only [ByteArray.size_append, show (⟨#[32, 108, 105, 110, 107, 32]⟩ : ByteArray).size = 6 from rfl] at c2018b5))
 replace H := Option.bind_eq_some_iff.mp H
 obtain ⟨t300, A20190, H⟩ := H
 replace H : (if (((x4_1006 ++ (⟨#[32, 108, 105, 110, 107, 32]⟩ : ByteArray)) ++ t299) ++ (⟨#[32, 109, 101, 116, 114, 105, 99, 32]⟩ : ByteArray)).size + t300.size ≤ 9223372036854775807 then (if ((((x4_1006 ++ (⟨#[32, 108, 105, 110, 107, 32]⟩ : ByteArray)) ++ t299) ++ (⟨#[32, 109, 101, 116, 114, 105, 99, 32]⟩ : ByteArray)) ++ t300).size + 1 ≤ 9223372036854775807 then (spec_ShowRoutes.l0 kj1006 l0 (((((x4_1006 ++ (⟨#[32, 108, 105, 110, 107, 32]⟩ : ByteArray)) ++ t299) ++ (⟨#[32, 109, 101, 116, 114, 105, 99, 32]⟩ : ByteArray)) ++ t300) ++ (⟨#[10]⟩ : ByteArray)) (wrap64 (x5_1 + 1))) else (none)) else (none)) = some (r1, r2) := H
 have A2019 := Aside0.mk A20190
 clear A20190
 by_cases c2020 : (((x4_1006 ++ (⟨#[32, 108, 105, 110, 107, 32]⟩ : ByteArray)) ++ t299) ++ (⟨#[32, 109, 101, 116, 114, 105, 99, 32]⟩ : ByteArray)).size + t300.size ≤ 9223372036854775807
 rw [if_pos c2020] at H
 have c2020b0 := eq_true c2020
 have c2020b1 : decide ((((x4_1006 ++ (⟨#[32, 108, 105, 110, 107, 32]⟩ : ByteArray)) ++ t299) ++ (⟨#[32, 109, 101, 116, 114, 105, 99, 32]⟩ : ByteArray)).size + t300.size ≤ 9223372036854775807) = true := decide_eq_true c2020
 try have c2020b2 : (9223372036854775807 < (((x4_1006 ++ (⟨#[32, 108, 105, 110, 107, 32]⟩ : ByteArray)) ++ t299) ++ (⟨#[32, 109, 101, 116, 114, 105, 99, 32]⟩ : ByteArray)).size + t300.size) = False := eq_false (Nat.not_lt.2 c2020)
 (try (have c2020b5 := c2020b2; simp only [ByteArray.size_append, show (⟨#[32, 108, 105, 110, 107, 32]⟩ : ByteArray).size = 6 from rfl, show (⟨#[32, 109, 101, 116, 114, 105, 99, 32]⟩ : ByteArray).size = 8 from rfl] at c2020b5))
 by_cases c2021 : ((((x4_1006 ++ (⟨#[32, 108, 105, 110, 107, 32]⟩ : ByteArray)) ++ t299) ++ (⟨#[32, 109, 101, 116, 114, 105, 99, 32]⟩ : ByteArray)) ++ t300).size + 1 ≤ 9223372036854775807
 rw [if_pos c2021] at H
 have c2021b0 := eq_true c2021
 have c2021b1 : decide (((((x4_1006 ++ (⟨#[32, 108, 105, 110, 107, 32]⟩ : ByteArray)) ++ t299) ++ (⟨#[32, 109, 101, 116, 114, 105, 99, 32]⟩ : ByteArray)) ++ t300).size + 1 ≤ 9223372036854775807) = true := decide_eq_true c2021
 try have c2021b2 : (9223372036854775807 < ((((x4_1006 ++ (⟨#[32, 108, 105, 110, 107, 32]⟩ : ByteArray)) ++ t299) ++ (⟨#[32, 109, 101, 116, 114, 105, 99, 32]⟩ : ByteArray)) ++ t300).size + 1) = False := eq_false (Nat.not_lt.2 c2021)
 (try (have c2021b5 := c2021b2; simp only [ByteArray.size_append, show (⟨#[32, 108, 105, 110, 107, 32]⟩ : ByteArray).size = 6 from rfl, show (⟨#[32, 109, 101, 116, 114, 105, 99, 32]⟩ : ByteArray).size = 8 from rfl] at c2021b5))
 have H' := Aside0.mk H
 clear H
 rotate_left
 rw [if_neg c2021] at H
 exact absurd H (by simp)
 rw [if_neg c2020] at H
 exact absurd H (by simp)
 rw [if_neg c2018] at H
 exact absurd H (by simp)
 rw [if_neg c2015] at H
 exact absurd H (by simp)
 rw [if_neg c2013] at H
 exact absurd H (by simp)
 all_goals (
 obtain ⟨⟨hcz3001_0, hcz3001_1, hcz3001_2, hcz3001_3, hcz3001_4⟩, hfz3001_0, hfz3001_1, hfz3001_2, hfz3001_3, hfz3001_4⟩ := cells5 BK293.out
 go_wp2_with (first | ((with_reducible refine gate_callee (f := 104) rfl ?_); refine goesL_ (some 53) rfl rfl Try.func104 (by kernel_rfl) rfl #[.int .i64 ((rd_T76 l0 x5_1).f2)] rfl wT ?_; (with_reducible refine (spec_l02Dec.calls kj1006 ((rd_T76 l0 x5_1).f2) t299 _ A2014.out).mono ?_); rintro e w3002 ⟨rfl, hb⟩; refine ⟨_, rfl, ?_⟩; have n0_ := Aside0.mk (blk_below (Bh BK293) hb); have n1_ := Aside0.mk (below_step wB hb); clear BK293; clear HB; have BK293 := n0_; have HB := n1_; clear n0_ n1_; (try clear hb); (try clear hb2); (try clear hk); (try clear hi); obtain ⟨⟨hcz3003_0, hcz3003_1, hcz3003_2, hcz3003_3, hcz3003_4⟩, hfz3003_0, hfz3003_1, hfz3003_2, hfz3003_3, hfz3003_4⟩ := cells5 BK293.out) | ((with_reducible refine gate_callee (f := 104) rfl ?_); refine goesL_ (some 62) rfl rfl Try.func104 (by kernel_rfl) rfl #[.int .i64 ((rd_T76 l0 x5_1).f3)] rfl wT ?_; (with_reducible refine (spec_l02Dec.calls kj1006 ((rd_T76 l0 x5_1).f3) t300 _ A2019.out).mono ?_); rintro e w3004 ⟨rfl, hb⟩; refine ⟨_, rfl, ?_⟩; have n0_ := Aside0.mk (blk_below (Bh BK293) hb); have n1_ := Aside0.mk (below_step wB hb); clear BK293; clear HB; have BK293 := n0_; have HB := n1_; clear n0_ n1_; (try clear hb); (try clear hb2); (try clear hk); (try clear hi)))
 go_roundg kj1006
 case measure => have := HK1.out; have := HJ1006.out; omega
 )
 {
 case rel => exact ⟨(((x4_1006 ++ (⟨#[32, 108, 105, 110, 107, 32]⟩ : ByteArray)) ++ t299) ++ (⟨#[10]⟩ : ByteArray)), (wrap64 (x5_1 + 1)), (by first | rfl | (simp; done) | (simp [*]; done)), (by first | rfl | (simp; done) | (simp [*]; done)), H', ⟨by have := HK1.out; have := HJ1006.out; omega⟩, ⟨wB⟩⟩
 }
 {
 case rel => exact ⟨(((((x4_1006 ++ (⟨#[32, 108, 105, 110, 107, 32]⟩ : ByteArray)) ++ t299) ++ (⟨#[32, 109, 101, 116, 114, 105, 99, 32]⟩ : ByteArray)) ++ t300) ++ (⟨#[10]⟩ : ByteArray)), (wrap64 (x5_1 + 1)), (by first | rfl | (simp; done) | (simp [*]; done)), (by first | rfl | (simp; done) | (simp [*]; done)), H', ⟨by have := HK1.out; have := HJ1006.out; omega⟩, ⟨wB⟩⟩
 }
 }
 )
 }
 {
 go_wp2_with (first | ((with_reducible refine gate_dst (N := 6) rfl ?_); refine box_event ?hg (N := 6) ?hd (cs := #[.int .i64 0, .int .i64 0, .int .i64 0, .int .i64 0, .int .i64 0]) (t := 76) ?hr ?_; (case hd => rfl); (case hg => rfl); (case hr => first | (go_simp; done) | (go_simp; rfl)); intro gb293 hg w2001 hbox hb; have n0_ := Aside0.mk (below_step wB hb); have n1_ := Aside0.mk (hbox); have n2_ := Aside0.mk ((by rw [hg]; exact (below_size wB) : w.heap.size ≤ gb293)); have n3_ := Aside0.mk ((by rw [hg]; exact (below_size wB) : w.heap.size ≤ gb293)); clear HB; have HB := n0_; have BK293 := n1_; have GW293 := n2_; have GE293 := n3_; clear n0_ n1_ n2_ n3_; clear hb hbox hg; obtain ⟨⟨hcz2002_0, hcz2002_1, hcz2002_2, hcz2002_3, hcz2002_4⟩, hfz2002_0, hfz2002_1, hfz2002_2, hfz2002_3, hfz2002_4⟩ := cells5 BK293.out) | ((with_reducible refine gate_store (t := 76) (p := 6) rfl ?_); refine store_event (t := 76) (p := 6) (v := ?_) (w1 := (((((w2001.setCell ⟨gb293, 0, none⟩ (.int .i64 ((rd_T76 l0 x5_1).f0.f0))).setCell ⟨gb293, 1, none⟩ (.int .i64 ((rd_T76 l0 x5_1).f0.f1))).setCell ⟨gb293, 2, none⟩ (.int .i64 ((rd_T76 l0 x5_1).f1))).setCell ⟨gb293, 3, none⟩ (.int .i64 ((rd_T76 l0 x5_1).f2))).setCell ⟨gb293, 4, none⟩ (.int .i64 ((rd_T76 l0 x5_1).f3)))) ?hg ?ho ?hn ?hr ?_; (case ho => rfl); (case hg => rfl); (case hn => rfl); (case hr => first | (go_simp; done) | (go_simp; rfl)); intro w2003 hw; have n0_ : Aside0 (w2003.heap[gb293]? = some (.cells #[.int .i64 ((rd_T76 l0 x5_1).f0.f0), .int .i64 ((rd_T76 l0 x5_1).f0.f1), .int .i64 ((rd_T76 l0 x5_1).f1), .int .i64 ((rd_T76 l0 x5_1).f2), .int .i64 ((rd_T76 l0 x5_1).f3)] 76 (0, 0))) := ⟨(by rw [hw]; exact (by (with_reducible repeat (first | refine blk_drewN ?_ _ | refine blk_drew ?_ | refine blk_alloc ?_ _)); refine blk_put (cs := #[.int .i64 ((rd_T76 l0 x5_1).f0.f0), .int .i64 ((rd_T76 l0 x5_1).f0.f1), .int .i64 ((rd_T76 l0 x5_1).f1), .int .i64 ((rd_T76 l0 x5_1).f2), .int .i64 0]) ?_ 4 _ rfl; (with_reducible repeat (first | refine blk_drewN ?_ _ | refine blk_drew ?_ | refine blk_alloc ?_ _)); refine blk_put (cs := #[.int .i64 ((rd_T76 l0 x5_1).f0.f0), .int .i64 ((rd_T76 l0 x5_1).f0.f1), .int .i64 ((rd_T76 l0 x5_1).f1), .int .i64 0, .int .i64 0]) ?_ 3 _ rfl; (with_reducible repeat (first | refine blk_drewN ?_ _ | refine blk_drew ?_ | refine blk_alloc ?_ _)); refine blk_put (cs := #[.int .i64 ((rd_T76 l0 x5_1).f0.f0), .int .i64 ((rd_T76 l0 x5_1).f0.f1), .int .i64 0, .int .i64 0, .int .i64 0]) ?_ 2 _ rfl; (with_reducible repeat (first | refine blk_drewN ?_ _ | refine blk_drew ?_ | refine blk_alloc ?_ _)); refine blk_put (cs := #[.int .i64 ((rd_T76 l0 x5_1).f0.f0), .int .i64 0, .int .i64 0, .int .i64 0, .int .i64 0]) ?_ 1 _ rfl; (with_reducible repeat (first | refine blk_drewN ?_ _ | refine blk_drew ?_ | refine blk_alloc ?_ _)); refine blk_put (cs := #[.int .i64 0, .int .i64 0, .int .i64 0, .int .i64 0, .int .i64 0]) ?_ 0 _ rfl; (with_reducible repeat (first | refine blk_drewN ?_ _ | refine blk_drew ?_ | refine blk_alloc ?_ _)); exact BK293.out))⟩; have n1_ : Aside0 (Below w.heap.size w w2003) := ⟨(by rw [hw]; exact wB)⟩; clear hw; clear BK293; clear HB; have BK293 := n0_; have HB := n1_; clear n0_ n1_; obtain ⟨⟨hcz2004_0, hcz2004_1, hcz2004_2, hcz2004_3, hcz2004_4⟩, hfz2004_0, hfz2004_1, hfz2004_2, hfz2004_3, hfz2004_4⟩ := cells5 BK293.out) | ((with_reducible refine gate_callee (f := 101) rfl ?_); refine goesL_ (some 25) rfl rfl Try.func101 (by kernel_rfl) rfl #[.agg #[.int .i64 ((rd_T76 l0 x5_1).f0.f0), .int .i64 ((rd_T76 l0 x5_1).f0.f1), .int .i64 ((rd_T76 l0 x5_1).f1), .int .i64 ((rd_T76 l0 x5_1).f2), .int .i64 ((rd_T76 l0 x5_1).f3)]] rfl wT ?_; (with_reducible refine (spec_l08OK.calls k1 ((rd_T76 l0 x5_1).f0.f0) ((rd_T76 l0 x5_1).f0.f1) ((rd_T76 l0 x5_1).f1) ((rd_T76 l0 x5_1).f2) ((rd_T76 l0 x5_1).f3) false _ A1003.out).mono ?_); rintro e w2005 ⟨rfl, hb⟩; refine ⟨_, rfl, ?_⟩; have n0_ := Aside0.mk (blk_below (Bh BK293) hb); have n1_ := Aside0.mk (below_step wB hb); clear BK293; clear HB; have BK293 := n0_; have HB := n1_; clear n0_ n1_; (try clear hb); (try clear hb2); (try clear hk); (try clear hi)))
 go_ret2
 exact ⟨by first | rfl | (simp [errW_none, errW_some] <;> rfl) | (simp [*, errW_none, errW_some] <;> rfl), wB⟩
 }
 {
 go_wp2
 go_ret2
 exact ⟨by first | rfl | (simp [errW_none, errW_some] <;> rfl) | (simp [*, errW_none, errW_some] <;> rfl), wB⟩
 }
 }
 )
 }

end Go.Proofs.Ytkfbcmbemihbnaa.PFnLongest
