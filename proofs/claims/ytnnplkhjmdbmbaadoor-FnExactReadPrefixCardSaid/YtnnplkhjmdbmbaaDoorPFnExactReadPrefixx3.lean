-- Written for this claim by a program of this session (wip/mkprint.py: the print, turned at a few places). Not trusted: Lean checks it.
import Derived.Test.YtnnplkhjmdbmbaaDoorPFnExactReadPrefixx0
import Derived.Test.YtnnplkhjmdbmbaaDoorPFnExactReadPrefixx2
namespace Go.Proofs.YtnnplkhjmdbmbaaDoor.PFnExactReadPrefix
open Go.RowKit Go.Proofs.YtnnplkhjmdbmbaaDoorW.PrintWords Go.Proofs.YtnnplkhjmdbmbaaDoorW.PrintLast Go.Proofs.YtnnplkhjmdbmbaaDoorW.PrintMore
attribute [local go_sem] max2_int min2_int max_two min_two max_three min_three max_four min_four   -- for this text's walks alone
set_option linter.unusedVariables false
set_option linter.unusedSimpArgs false

/-! ### impl_decimal: function 37 -/
mutual
def impl_decimal.j0 : Nat → ByteArray → Bool → Option (Int × Bool)
  | 0, _, _ => none
  | k + 1, x0, x27 => if x27 = true then (some (0, false)) else (if x0.size ≤ 9223372036854775807 then ((some (bytesOf x0 : List Int)).bind fun y141 => (impl_decimal.l0 k 0 y141 (y141.length : Int) 0)) else (none))
def impl_decimal.l0 : Nat → Int → List Int → Int → Int → Option (Int × Bool)
  | 0, _, _, _, _ => none
  | k + 1, x6, x29, x30, x31 => if x31 < x30 then (if 0 ≤ x31 then (if x31 < (x29.length : Int) then (if (rd x29 x31) < 48 then (some (0, false)) else (if (rd x29 x31) > 57 then (some (0, false)) else (impl_decimal.l0 k (wrap64 ((wrap64 (x6 * 10)) + (((rd x29 x31) - 48) % 256))) x29 x30 (wrap64 (x31 + 1))))) else (none)) else (none)) else (some (x6, true))
end
def impl_decimal.f (k : Nat) (a0 : ByteArray) (a1 : Int) : Option (Int × Bool) := if (a0.size : Int) = 0 then (impl_decimal.j0 k a0 true) else (if (a0.size : Int) > a1 then (impl_decimal.j0 k a0 true) else (if (a0.size : Int) > 1 then (if 0 < (a0.size : Int) then (impl_decimal.j0 k a0 ((bt a0 0) == 48)) else (none)) else (impl_decimal.j0 k a0 false)))
theorem impl_decimal.mono_l : ∀ k, (∀ y0 y1, LeO (impl_decimal.j0 k y0 y1) (impl_decimal.j0 (k + 1) y0 y1)) ∧ (∀ y0 y1 y2 y3, LeO (impl_decimal.l0 k y0 y1 y2 y3) (impl_decimal.l0 (k + 1) y0 y1 y2 y3))
  | 0 => ⟨fun _ _ r h => by simp [impl_decimal.j0] at h, fun _ _ _ _ r h => by simp [impl_decimal.l0] at h⟩
  | k + 1 => by
    obtain ⟨ih0, ih1⟩ := impl_decimal.mono_l k
    refine ⟨?_, ?_⟩
    · intro y0 y1
      unfold impl_decimal.j0
      repeat' first
      | (with_reducible exact ih0 _ _)
      | (with_reducible exact ih1 _ _ _ _)
      | (with_reducible exact LeO.refl _)
      | (with_reducible exact LeO.none _)
      | (with_reducible refine LeO.ite ?_ ?_)
      | (with_reducible refine LeO.bind ?_ (fun _ => ?_))
      | exact ih0 _ _
      | exact ih1 _ _ _ _
      | exact LeO.none _
      | refine LeO.ite ?_ ?_
      | refine LeO.bind ?_ (fun _ => ?_)
    · intro y0 y1 y2 y3
      unfold impl_decimal.l0
      repeat' first
      | (with_reducible exact ih0 _ _)
      | (with_reducible exact ih1 _ _ _ _)
      | (with_reducible exact LeO.refl _)
      | (with_reducible exact LeO.none _)
      | (with_reducible refine LeO.ite ?_ ?_)
      | (with_reducible refine LeO.bind ?_ (fun _ => ?_))
      | exact ih0 _ _
      | exact ih1 _ _ _ _
      | exact LeO.none _
      | refine LeO.ite ?_ ?_
      | refine LeO.bind ?_ (fun _ => ?_)
theorem impl_decimal.mono : ∀ a0 a1 k, LeO (impl_decimal.f k a0 a1) (impl_decimal.f (k + 1) a0 a1) := by
  intro a0 a1 k
  obtain ⟨ih0, ih1⟩ := impl_decimal.mono_l k
  unfold impl_decimal.f
  repeat' first
      | (with_reducible exact ih0 _ _)
      | (with_reducible exact ih1 _ _ _ _)
      | (with_reducible exact LeO.refl _)
      | (with_reducible exact LeO.none _)
      | (with_reducible refine LeO.ite ?_ ?_)
      | (with_reducible refine LeO.bind ?_ (fun _ => ?_))
      | exact ih0 _ _
      | exact ih1 _ _ _ _
      | exact LeO.none _
      | refine LeO.ite ?_ ?_
      | refine LeO.bind ?_ (fun _ => ?_)
set_option maxHeartbeats 60000000 in
set_option maxRecDepth 100000 in
theorem impl_decimal.calls (k : Nat) (a0 : ByteArray) (a1 : Int) (r1 : Int) (r2 : Bool) (w : World) (h : impl_decimal.f k a0 a1 = some (r1, r2)) :
    Calls Tryd.prog 37 #[.string a0, .int .i64 a1] w fun e w' => e = .returned (.tuple #[.int .i64 r1, .bool r2]) ∧ Below w.heap.size w w' := by
  have HB := Aside0.mk (Below.refl w.heap.size w)
  have H : (if (a0.size : Int) = 0 then (impl_decimal.j0 k a0 true) else (if (a0.size : Int) > a1 then (impl_decimal.j0 k a0 true) else (if (a0.size : Int) > 1 then (if 0 < (a0.size : Int) then (impl_decimal.j0 k a0 ((bt a0 0) == 48)) else (none)) else (impl_decimal.j0 k a0 false)))) = some (r1, r2) := h
  clear h
  have HC3 := Aside0.mk H
  clear H
  go_enter Tryd.func37, Tryd.ntmps37
  go_upto_region 1 with (fail)
  go_cut [27] (fun v27 wc => ∃ (kq : Nat) (x27_2 : Bool), v27 = .bool x27_2 ∧ Aside0 (impl_decimal.j0 kq a0 x27_2 = some (r1, r2)) ∧ Aside0 (kq ≤ k) ∧ Aside0 (Below w.heap.size w wc))
  case first =>
    have H := HC3.out
    clear HC3
    by_cases c1001 : (a0.size : Int) = 0
    · rw [if_pos c1001] at H
      have c1001b0 : ((a0.size : Int) == 0) = true := beq_iff_eq.mpr c1001
      have c1001b1 : ((a0.size : Int) != 0) = false := bne_eq_false_iff_eq.mpr c1001
      clear c1001
      (first | rw [c1001b0] | (simp only [i64_w, i32_w]; rw [c1001b0]) | skip)
      have H' := Aside0.mk H
      clear H
      go_wp2
      all_goals (try (rename_i h_; exfalso; cases h_; done))
      all_goals (try (rename_i h_ h2_; exfalso; cases h_; done))
      go_meet
      case rel => exact ⟨_, (true), (by first | rfl | (simp; done) | (simp [*]; done)), H', ⟨by first | omega | exact Nat.le_refl _⟩, ⟨wB⟩⟩
    · rw [if_neg c1001] at H
      have c1001b0 : ((a0.size : Int) == 0) = false := beq_eq_false_iff_ne.mpr c1001
      have c1001b1 : ((a0.size : Int) != 0) = true := bne_iff_ne.mpr c1001
      (first | rw [c1001b0] | (simp only [i64_w, i32_w]; rw [c1001b0]) | skip)
      by_cases c1002 : (a0.size : Int) > a1
      · rw [if_pos c1002] at H
        have c1002b0 : decide (a1 < (a0.size : Int)) = true := decide_eq_true c1002
        clear c1002
        have H' := Aside0.mk H
        clear H
        go_wp2
        all_goals (try (rename_i h_; exfalso; cases h_; done))
        all_goals (try (rename_i h_ h2_; exfalso; cases h_; done))
        go_meet
        case rel => exact ⟨_, (true), (by first | rfl | (simp; done) | (simp [*]; done)), H', ⟨by first | omega | exact Nat.le_refl _⟩, ⟨wB⟩⟩
      · rw [if_neg c1002] at H
        have c1002b0 : decide (a1 < (a0.size : Int)) = false := decide_eq_false c1002
        clear c1002
        by_cases c1003 : (a0.size : Int) > 1
        · rw [if_pos c1003] at H
          have c1003b0 : decide (1 < (a0.size : Int)) = true := decide_eq_true c1003
          have c1003b1 : decide (1 < a0.size) = true := decide_eq_true (by omega)
          clear c1003
          by_cases c1004 : 0 < (a0.size : Int)
          · rw [if_pos c1004] at H
            have c1004b0 : decide (0 < (a0.size : Int)) = true := decide_eq_true c1004
            have c1004b1 : decide (0 < a0.size) = true := decide_eq_true (by omega)
            clear c1004
            have H' := Aside0.mk H
            clear H
            have p1005 : 0 ≤ (0 : Int) := (by omega)
            have q1005 : 0 < a0.size := (by have : (0 : Int) < (a0.size : Int) := of_decide_eq_true (by first | (with_reducible assumption) | assumption); omega)
            have hx1005 : ∀ h : 0 < a0.size, ((a0[0]'h).toNat : Int) = bt a0 0 := bt_at a0 0
            clear p1005
            have qi1005 : (0 < (a0.size : Int)) = True := eq_true (of_decide_eq_true (by first | (with_reducible assumption) | assumption))
            replace q1005 := eq_true q1005
            go_wp2
            all_goals (try (rename_i h_; exfalso; cases h_; done))
            all_goals (try (rename_i h_ h2_; exfalso; cases h_; done))
            go_meet
            case rel => exact ⟨_, (((bt a0 0) == 48)), (by first | rfl | (simp; done) | (simp [*]; done)), H', ⟨by first | omega | exact Nat.le_refl _⟩, ⟨wB⟩⟩
          · rw [if_neg c1004] at H
            exact absurd H (by simp)
        · rw [if_neg c1003] at H
          have c1003b0 : decide (1 < (a0.size : Int)) = false := decide_eq_false c1003
          have c1003b1 : decide (1 < a0.size) = false := decide_eq_false (by omega)
          clear c1003
          have H' := Aside0.mk H
          clear H
          go_wp2
          all_goals (try (rename_i h_; exfalso; cases h_; done))
          all_goals (try (rename_i h_ h2_; exfalso; cases h_; done))
          go_meet
          case rel => exact ⟨_, (false), (by first | rfl | (simp; done) | (simp [*]; done)), H', ⟨by first | omega | exact Nat.le_refl _⟩, ⟨wB⟩⟩
  case rest =>
    clear HC3
    try clear c1001
    try clear c1001b0
    try clear c1001b1
    try clear c1002
    try clear c1002b0
    try clear c1003
    try clear c1003b0
    try clear c1003b1
    try clear c1004
    try clear c1004b0
    try clear c1004b1
    try clear p1005
    try clear q1005
    try clear hx1005
    try clear qi1005
    try clear p1005
    try clear q1005
    obtain ⟨kq, x27_2, rfl, HA, HJ2, HB⟩ := hcut
    cases kq with
    | zero => exact absurd HA.out (by simp [impl_decimal.j0])
    | succ kj2 =>
      have H := HA.out
      clear HA
      simp only [impl_decimal.j0] at H
      by_cases c1006 : x27_2 = true
      · subst c1006
        have H1 : (some (0, false)) = some (r1, r2) := by rw [if_pos rfl] at H; exact H
        clear H
        have H := H1
        clear H1
        simp only [Option.some.injEq, Prod.mk.injEq] at H
        obtain ⟨rfl, rfl⟩ := H
        go_wp2
        all_goals (try (rename_i h_; exfalso; cases h_; done))
        all_goals (try (rename_i h_ h2_; exfalso; cases h_; done))
        go_ret2
        exact ⟨by first | rfl | (simp [errW_none, errW_some] <;> rfl) | (simp [*, errW_none, errW_some] <;> rfl), wB⟩
      · replace c1006 := Bool.eq_false_iff.mpr c1006
        subst c1006
        have H1 : (if a0.size ≤ 9223372036854775807 then ((some (bytesOf a0 : List Int)).bind fun y141 => (impl_decimal.l0 kj2 0 y141 (y141.length : Int) 0)) else (none)) = some (r1, r2) := by rw [if_neg (show ¬ (false = true) by decide)] at H; exact H
        clear H
        have H := H1
        clear H1
        by_cases c1007 : a0.size ≤ 9223372036854775807
        · rw [if_pos c1007] at H
          have LMc1007 := Aside0.mk c1007
          clear c1007
          obtain ⟨y141, hy141⟩ : ∃ y_ : List Int, y_ = (bytesOf a0) := ⟨_, rfl⟩
          replace H : (impl_decimal.l0 kj2 0 y141 (y141.length : Int) 0) = some (r1, r2) := by first | (rw [hy141]; with_reducible exact H) | (have H2_ := (Option.bind_some _ _).symm.trans H; rw [hy141]; with_reducible exact H2_) | (have H2_ := (Option.bind_some _ _).symm.trans H; with_reducible exact H2_) | with_reducible exact H | (rw [hy141]; exact H) | exact H
          have Ny141 := Aside0.mk hy141
          clear hy141
          have H' := Aside0.mk H
          clear H
          go_wp2_with (first | ((with_reducible refine gate_dst (N := 29) rfl ?_); (try (refine gate_guard (by rfl) ?_; dsimp only)); refine C_conv 5 rfl 9 22 _ rfl a0 rfl Tryd.underlying9 Tryd.underlying22 Tryd.underlying5 y141 Ny141.out LMc1007.out ?_; intro adc145 ccv146 w2001 hC hl hb; have n0_ := Aside0.mk (below_step wB hb); clear HB; have HB := n0_; clear n0_; have HRv144 := Aside0.mk hC; have HCv144 := Aside0.mk hl; clear hb hC hl))
          all_goals (try (rename_i h_; exfalso; cases h_; done))
          all_goals (try (rename_i h_ h2_; exfalso; cases h_; done))
          go_loopg [6, 31] kj2 (fun kq v6 v31 w' => ∃ (x6_2 : Int) (x31_2 : Int), v6 = .int .i64 x6_2 ∧ v31 = .int .i64 x31_2 ∧ Aside0 (impl_decimal.l0 kq x6_2 y141 (y141.length : Int) x31_2 = some (r1, r2)) ∧ Aside0 (kq ≤ kj2) ∧ Aside0 (Kd.C (Kd.int .u8) w' (some adc145) y141.length y141) ∧ Aside0 (Below w.heap.size w w'))
          case atStart => exact ⟨(0), (0), (by first | rfl | (simp; done) | (simp [*]; done)), (by first | rfl | (simp; done) | (simp [*]; done)), H', ⟨Nat.le_refl _⟩, ⟨by repeat (first | (with_reducible exact HRv144.out) | (with_reducible refine Kd.C_alloc ?_ _) | (with_reducible refine Kd.C_drewN ?_ _) | (with_reducible refine Kd.C_drew ?_) | exact HRv144.out)⟩, ⟨wB⟩⟩
          case round =>
            clear H'
            try clear c1001
            try clear c1001b0
            try clear c1001b1
            try clear c1002
            try clear c1002b0
            try clear c1003
            try clear c1003b0
            try clear c1003b1
            try clear c1004
            try clear c1004b0
            try clear c1004b1
            try clear p1005
            try clear q1005
            try clear hx1005
            try clear qi1005
            try clear c1006
            try clear c1007
            try clear p1005
            try clear q1005
            obtain ⟨x6_2, x31_2, rfl, rfl, HA, HK2, HRv144, HB⟩ := hrel
            cases gk with
            | zero => exact absurd HA.out (by simp [impl_decimal.l0])
            | succ k2 =>
              have H := HA.out
              clear HA
              simp only [impl_decimal.l0] at H
              by_cases c2002 : x31_2 < (y141.length : Int)
              · rw [if_pos c2002] at H
                have c2002b0 : decide (x31_2 < (y141.length : Int)) = true := decide_eq_true c2002
                clear c2002
                by_cases c2003 : 0 ≤ x31_2
                · rw [if_pos c2003] at H
                  have c2003b0 : decide (0 ≤ x31_2) = true := decide_eq_true c2003
                  clear c2003
                  by_cases c2004 : x31_2 < (y141.length : Int)
                  · rw [if_pos c2004] at H
                    have c2004b0 : decide (x31_2 < (y141.length : Int)) = true := decide_eq_true c2004
                    clear c2004
                    by_cases c2005 : (rd y141 x31_2) < 48
                    · rw [if_pos c2005] at H
                      have c2005b0 : decide ((rd y141 x31_2) < 48) = true := decide_eq_true c2005
                      clear c2005
                      simp only [Option.some.injEq, Prod.mk.injEq] at H
                      obtain ⟨rfl, rfl⟩ := H
                      have p147 : 0 ≤ (x31_2 : Int) := of_decide_eq_true (by first | (with_reducible assumption) | assumption)
                      have q147 : x31_2 < (y141.length : Int) := of_decide_eq_true (by first | (with_reducible assumption) | assumption)
                      obtain ⟨ad147, e147, hx147_0⟩ := Kd.at_int (by repeat (first | (with_reducible exact HRv144.out) | (with_reducible refine Kd.C_alloc ?_ _) | (with_reducible refine Kd.C_drewN ?_ _) | (with_reducible refine Kd.C_drew ?_) | exact HRv144.out)) x31_2 p147 q147
                      obtain rfl : adc145 = ad147 := (by injection e147)
                      replace p147 := eq_true p147
                      replace q147 := eq_true q147
                      go_wp2
                      all_goals (try (rename_i h_; exfalso; cases h_; done))
                      all_goals (try (rename_i h_ h2_; exfalso; cases h_; done))
                      go_ret2
                      exact ⟨by first | rfl | (simp [errW_none, errW_some] <;> rfl) | (simp [*, errW_none, errW_some] <;> rfl), wB⟩
                    · rw [if_neg c2005] at H
                      have c2005b0 : decide ((rd y141 x31_2) < 48) = false := decide_eq_false c2005
                      clear c2005
                      by_cases c2006 : (rd y141 x31_2) > 57
                      · rw [if_pos c2006] at H
                        have c2006b0 : decide (57 < (rd y141 x31_2)) = true := decide_eq_true c2006
                        clear c2006
                        simp only [Option.some.injEq, Prod.mk.injEq] at H
                        obtain ⟨rfl, rfl⟩ := H
                        have p147 : 0 ≤ (x31_2 : Int) := of_decide_eq_true (by first | (with_reducible assumption) | assumption)
                        have q147 : x31_2 < (y141.length : Int) := of_decide_eq_true (by first | (with_reducible assumption) | assumption)
                        obtain ⟨ad147, e147, hx147_0⟩ := Kd.at_int (by repeat (first | (with_reducible exact HRv144.out) | (with_reducible refine Kd.C_alloc ?_ _) | (with_reducible refine Kd.C_drewN ?_ _) | (with_reducible refine Kd.C_drew ?_) | exact HRv144.out)) x31_2 p147 q147
                        obtain rfl : adc145 = ad147 := (by injection e147)
                        replace p147 := eq_true p147
                        replace q147 := eq_true q147
                        go_wp2
                        all_goals (try (rename_i h_; exfalso; cases h_; done))
                        all_goals (try (rename_i h_ h2_; exfalso; cases h_; done))
                        go_ret2
                        exact ⟨by first | rfl | (simp [errW_none, errW_some] <;> rfl) | (simp [*, errW_none, errW_some] <;> rfl), wB⟩
                      · rw [if_neg c2006] at H
                        have c2006b0 : decide (57 < (rd y141 x31_2)) = false := decide_eq_false c2006
                        clear c2006
                        have H' := Aside0.mk H
                        clear H
                        have p147 : 0 ≤ (x31_2 : Int) := of_decide_eq_true (by first | (with_reducible assumption) | assumption)
                        have q147 : x31_2 < (y141.length : Int) := of_decide_eq_true (by first | (with_reducible assumption) | assumption)
                        obtain ⟨ad147, e147, hx147_0⟩ := Kd.at_int (by repeat (first | (with_reducible exact HRv144.out) | (with_reducible refine Kd.C_alloc ?_ _) | (with_reducible refine Kd.C_drewN ?_ _) | (with_reducible refine Kd.C_drew ?_) | exact HRv144.out)) x31_2 p147 q147
                        obtain rfl : adc145 = ad147 := (by injection e147)
                        replace p147 := eq_true p147
                        replace q147 := eq_true q147
                        go_wp2
                        all_goals (try (rename_i h_; exfalso; cases h_; done))
                        all_goals (try (rename_i h_ h2_; exfalso; cases h_; done))
                        go_roundg k2
                        case measure => have := HJ2.out; have := HK2.out; omega
                        case rel => exact ⟨(wrap64 ((wrap64 (x6_2 * 10)) + (((rd y141 x31_2) - 48) % 256))), (wrap64 (x31_2 + 1)), (by first | rfl | (simp; done) | (simp [*]; done)), (by first | rfl | (simp; done) | (simp [*]; done)), H', ⟨by have := HJ2.out; have := HK2.out; omega⟩, ⟨by repeat (first | (with_reducible exact HRv144.out) | (with_reducible refine Kd.C_alloc ?_ _) | (with_reducible refine Kd.C_drewN ?_ _) | (with_reducible refine Kd.C_drew ?_) | exact HRv144.out)⟩, ⟨wB⟩⟩
                  · rw [if_neg c2004] at H
                    exact absurd H (by simp)
                · rw [if_neg c2003] at H
                  exact absurd H (by simp)
              · rw [if_neg c2002] at H
                have c2002b0 : decide (x31_2 < (y141.length : Int)) = false := decide_eq_false c2002
                clear c2002
                simp only [Option.some.injEq, Prod.mk.injEq] at H
                obtain ⟨rfl, rfl⟩ := H
                go_wp2
                all_goals (try (rename_i h_; exfalso; cases h_; done))
                all_goals (try (rename_i h_ h2_; exfalso; cases h_; done))
                go_ret2
                exact ⟨by first | rfl | (simp [errW_none, errW_some] <;> rfl) | (simp [*, errW_none, errW_some] <;> rfl), wB⟩
        · rw [if_neg c1007] at H
          exact absurd H (by simp)

/-! ### impl_ReadAddr: function 14 -/
def impl_ReadAddr.l0 : Nat → List ByteArray → Int → Int → Int → Option (Int × Int)
  | 0, _, _, _, _ => none
  | k + 1, x4, x5, x16, x17 => if x17 < x16 then (if 0 ≤ x17 then (if x17 < (x4.length : Int) then ((impl_decimal.f k (rdOf ByteArray.empty x4 x17) 3).bind fun bt152 => (if bt152.2 = true then (if bt152.1 > 255 then (some (0, 6)) else (impl_ReadAddr.l0 k x4 (Go.bits .or .i64 (wrap64 (x5 * 256)) bt152.1) x16 (wrap64 (x17 + 1)))) else (some (0, 6)))) else (none)) else (none)) else (some (x5, 0))
def impl_ReadAddr.f (k : Nat) (a0 : ByteArray) : Option (Int × Int) := (strings_Split.f a0 (⟨#[46]⟩ : ByteArray)).bind fun t148 => (if (t148.length : Int) = 4 then (impl_ReadAddr.l0 k t148 0 (t148.length : Int) 0) else (some (0, 6)))
theorem impl_ReadAddr.mono_l : ∀ k, (∀ y0 y1 y2 y3, LeO (impl_ReadAddr.l0 k y0 y1 y2 y3) (impl_ReadAddr.l0 (k + 1) y0 y1 y2 y3))
  | 0 => fun _ _ _ _ r h => by simp [impl_ReadAddr.l0] at h
  | k + 1 => by
    have ih0 := impl_ReadAddr.mono_l k
    · intro y0 y1 y2 y3
      unfold impl_ReadAddr.l0
      repeat' first
      | (with_reducible exact ih0 _ _ _ _)
      | (with_reducible exact impl_decimal.mono _ _ _)
      | (with_reducible exact LeO.refl _)
      | (with_reducible exact LeO.none _)
      | (with_reducible refine LeO.ite ?_ ?_)
      | (with_reducible refine LeO.bind ?_ (fun _ => ?_))
      | exact ih0 _ _ _ _
      | exact impl_decimal.mono _ _ _
      | exact LeO.none _
      | refine LeO.ite ?_ ?_
      | refine LeO.bind ?_ (fun _ => ?_)
theorem impl_ReadAddr.mono : ∀ a0 k, LeO (impl_ReadAddr.f k a0) (impl_ReadAddr.f (k + 1) a0) := by
  intro a0 k
  have ih0 := impl_ReadAddr.mono_l k
  unfold impl_ReadAddr.f
  repeat' first
      | (with_reducible exact ih0 _ _ _ _)
      | (with_reducible exact impl_decimal.mono _ _ _)
      | (with_reducible exact LeO.refl _)
      | (with_reducible exact LeO.none _)
      | (with_reducible refine LeO.ite ?_ ?_)
      | (with_reducible refine LeO.bind ?_ (fun _ => ?_))
      | exact ih0 _ _ _ _
      | exact impl_decimal.mono _ _ _
      | exact LeO.none _
      | refine LeO.ite ?_ ?_
      | refine LeO.bind ?_ (fun _ => ?_)
set_option maxHeartbeats 60000000 in
set_option maxRecDepth 100000 in
theorem impl_ReadAddr.calls (k : Nat) (a0 : ByteArray) (r1 : Int) (r2 : Int) (w : World) (hd : Door w) (h : impl_ReadAddr.f k a0 = some (r1, r2)) :
    Calls Tryd.prog 14 #[.string a0] w fun e w' => e = .returned (.tuple #[.int .i64 r1, .int .i64 r2]) ∧ Below w.heap.size w w' := by
  have HD := Aside0.mk hd
  clear hd
  have HB := Aside0.mk (Below.refl w.heap.size w)
  have H : ((strings_Split.f a0 (⟨#[46]⟩ : ByteArray)).bind fun t148 => (if (t148.length : Int) = 4 then (impl_ReadAddr.l0 k t148 0 (t148.length : Int) 0) else (some (0, 6)))) = some (r1, r2) := h
  clear h
  replace H := Option.bind_eq_some_iff.mp H
  obtain ⟨t148, A20, H⟩ := H
  replace H : (if (t148.length : Int) = 4 then (impl_ReadAddr.l0 k t148 0 (t148.length : Int) 0) else (some (0, 6))) = some (r1, r2) := H
  have A2 := Aside0.mk A20
  clear A20
  by_cases c3 : (t148.length : Int) = 4
  · rw [if_pos c3] at H
    have c3b0 : ((t148.length : Int) == 4) = true := beq_iff_eq.mpr c3
    have c3b1 : ((t148.length : Int) != 4) = false := bne_eq_false_iff_eq.mpr c3
    clear c3
    have H' := Aside0.mk H
    clear H
    go_enter Tryd.func14, Tryd.ntmps14
    go_wp2_with (first | ((with_reducible refine gate_callee (f := 36) rfl ?_); refine goesL_ (some 11) rfl rfl Tryd.func36 (by kernel_rfl) rfl #[.string a0, .string (⟨#[46]⟩ : ByteArray)] rfl wT ?_; (with_reducible refine (strings_Split.calls a0 (⟨#[46]⟩ : ByteArray) t148 _ ?side1 A2.out).mono ?_); (case side1 => repeat (first | exact HD.out | (with_reducible refine Door.c_alloc ?_ _) | (with_reducible refine Door.c_drewN ?_ _) | (with_reducible refine Door.c_drew ?_))); rintro e w1001 ⟨v149, rfl, ho0, hb⟩; refine ⟨_, rfl, ?_⟩; have n0_ := Aside0.mk (Kd.R_lower ho0 (below_size wB)); have n1_ := Aside0.mk (below_step wB hb); clear HB; have HO150 := n0_; have HB := n1_; clear n0_ n1_; (try clear hb); (try clear hb2); (try clear hk); (try clear hi); (try clear ho0); obtain ⟨Ao1002, co1002, eo1002⟩ := Kd.R_slice HO150.out; subst eo1002))
    go_loopg [5, 17] k (fun kq v5 v17 w' => ∃ (x5_1 : Int) (x17_1 : Int), v5 = .int .i64 x5_1 ∧ v17 = .int .i64 x17_1 ∧ Aside0 (impl_ReadAddr.l0 kq t148 x5_1 (t148.length : Int) x17_1 = some (r1, r2)) ∧ Aside0 (kq ≤ k) ∧ Aside0 (Kd.R Kd.string 9 w' w.heap.size (fun _ => True) (.slice Ao1002 t148.length co1002) t148) ∧ Aside0 (Below w.heap.size w w'))
    case atStart => exact ⟨(0), (0), (by first | rfl | (simp; done) | (simp [*]; done)), (by first | rfl | (simp; done) | (simp [*]; done)), H', ⟨Nat.le_refl _⟩, ⟨Rh HO150⟩, ⟨wB⟩⟩
    case round =>
      clear H'
      try clear c3
      try clear c3b0
      try clear c3b1
      obtain ⟨x5_1, x17_1, rfl, rfl, HA, HK1, HO_4, HB⟩ := hrel
      cases gk with
      | zero => exact absurd HA.out (by simp [impl_ReadAddr.l0])
      | succ k1 =>
        have H := HA.out
        clear HA
        simp only [impl_ReadAddr.l0] at H
        by_cases c1003 : x17_1 < (t148.length : Int)
        · rw [if_pos c1003] at H
          have c1003b0 : decide (x17_1 < (t148.length : Int)) = true := decide_eq_true c1003
          clear c1003
          by_cases c1004 : 0 ≤ x17_1
          · rw [if_pos c1004] at H
            have c1004b0 : decide (0 ≤ x17_1) = true := decide_eq_true c1004
            clear c1004
            by_cases c1005 : x17_1 < (t148.length : Int)
            · rw [if_pos c1005] at H
              have c1005b0 : decide (x17_1 < (t148.length : Int)) = true := decide_eq_true c1005
              clear c1005
              replace H := Option.bind_eq_some_iff.mp H
              obtain ⟨⟨t152, t153⟩, A10060, H⟩ := H
              replace H : (if t153 = true then (if t152 > 255 then (some (0, 6)) else (impl_ReadAddr.l0 k1 t148 (Go.bits .or .i64 (wrap64 (x5_1 * 256)) t152) (t148.length : Int) (wrap64 (x17_1 + 1)))) else (some (0, 6))) = some (r1, r2) := H
              have A1006 := Aside0.mk A10060
              clear A10060
              by_cases c1007 : t153 = true
              · subst c1007
                have H1 : (if t152 > 255 then (some (0, 6)) else (impl_ReadAddr.l0 k1 t148 (Go.bits .or .i64 (wrap64 (x5_1 * 256)) t152) (t148.length : Int) (wrap64 (x17_1 + 1)))) = some (r1, r2) := by rw [if_pos rfl] at H; exact H
                clear H
                have H := H1
                clear H1
                by_cases c1008 : t152 > 255
                · rw [if_pos c1008] at H
                  have c1008b0 : decide (255 < t152) = true := decide_eq_true c1008
                  clear c1008
                  simp only [Option.some.injEq, Prod.mk.injEq] at H
                  obtain ⟨rfl, rfl⟩ := H
                  have p151 : 0 ≤ (x17_1 : Int) := of_decide_eq_true (by first | (with_reducible assumption) | assumption)
                  have q151 : x17_1 < (t148.length : Int) := of_decide_eq_true (by first | (with_reducible assumption) | assumption)
                  obtain ⟨ad151, e151, hx151_0⟩ := Kd.at_string (Kd.R_reads' HO_4.out).2.2 x17_1 p151 q151
                  cases e151
                  replace p151 := eq_true p151
                  replace q151 := eq_true q151
                  (try clear HO_4)
                  go_wp2_with (first | ((with_reducible refine gate_callee (f := 37) rfl ?_); refine goesL_ (some 23) rfl rfl Tryd.func37 (by kernel_rfl) rfl #[.string (rdOf ByteArray.empty t148 x17_1), .int .i64 3] rfl wT ?_; (with_reducible refine (impl_decimal.calls k1 (rdOf ByteArray.empty t148 x17_1) 3 t152 true _ A1006.out).mono ?_); rintro e w2001 ⟨rfl, hb⟩; refine ⟨_, rfl, ?_⟩; have n0_ := Aside0.mk (below_step wB hb); clear HB; have HB := n0_; clear n0_; (try clear hb); (try clear hb2); (try clear hk); (try clear hi)))
                  go_ret2
                  exact ⟨by first | rfl | (simp [errW_none, errW_some] <;> rfl) | (simp [*, errW_none, errW_some] <;> rfl), wB⟩
                · rw [if_neg c1008] at H
                  have c1008b0 : decide (255 < t152) = false := decide_eq_false c1008
                  clear c1008
                  have H' := Aside0.mk H
                  clear H
                  have p151 : 0 ≤ (x17_1 : Int) := of_decide_eq_true (by first | (with_reducible assumption) | assumption)
                  have q151 : x17_1 < (t148.length : Int) := of_decide_eq_true (by first | (with_reducible assumption) | assumption)
                  obtain ⟨ad151, e151, hx151_0⟩ := Kd.at_string (Kd.R_reads' HO_4.out).2.2 x17_1 p151 q151
                  cases e151
                  replace p151 := eq_true p151
                  replace q151 := eq_true q151
                  go_wp2_with (first | ((with_reducible refine gate_callee (f := 37) rfl ?_); refine goesL_ (some 23) rfl rfl Tryd.func37 (by kernel_rfl) rfl #[.string (rdOf ByteArray.empty t148 x17_1), .int .i64 3] rfl wT ?_; (with_reducible refine (impl_decimal.calls k1 (rdOf ByteArray.empty t148 x17_1) 3 t152 true _ A1006.out).mono ?_); rintro e w2001 ⟨rfl, hb⟩; refine ⟨_, rfl, ?_⟩; have n0_ := Aside0.mk (Kd.R_below (Rh HO_4) hb); have n1_ := Aside0.mk (below_step wB hb); clear HO_4; clear HB; have HO_4 := n0_; have HB := n1_; clear n0_ n1_; (try clear hb); (try clear hb2); (try clear hk); (try clear hi)))
                  go_roundg k1
                  case measure => have := HK1.out; omega
                  case rel => exact ⟨(Go.bits .or .i64 (wrap64 (x5_1 * 256)) t152), (wrap64 (x17_1 + 1)), (by first | rfl | (simp; done) | (simp [*]; done)), (by first | rfl | (simp; done) | (simp [*]; done)), H', ⟨by have := HK1.out; omega⟩, ⟨Rh HO_4⟩, ⟨wB⟩⟩
              · replace c1007 := Bool.eq_false_iff.mpr c1007
                subst c1007
                have H1 : (some (0, 6)) = some (r1, r2) := by rw [if_neg (show ¬ (false = true) by decide)] at H; exact H
                clear H
                have H := H1
                clear H1
                simp only [Option.some.injEq, Prod.mk.injEq] at H
                obtain ⟨rfl, rfl⟩ := H
                have p151 : 0 ≤ (x17_1 : Int) := of_decide_eq_true (by first | (with_reducible assumption) | assumption)
                have q151 : x17_1 < (t148.length : Int) := of_decide_eq_true (by first | (with_reducible assumption) | assumption)
                obtain ⟨ad151, e151, hx151_0⟩ := Kd.at_string (Kd.R_reads' HO_4.out).2.2 x17_1 p151 q151
                cases e151
                replace p151 := eq_true p151
                replace q151 := eq_true q151
                (try clear HO_4)
                go_wp2_with (first | ((with_reducible refine gate_callee (f := 37) rfl ?_); refine goesL_ (some 23) rfl rfl Tryd.func37 (by kernel_rfl) rfl #[.string (rdOf ByteArray.empty t148 x17_1), .int .i64 3] rfl wT ?_; (with_reducible refine (impl_decimal.calls k1 (rdOf ByteArray.empty t148 x17_1) 3 t152 false _ A1006.out).mono ?_); rintro e w2001 ⟨rfl, hb⟩; refine ⟨_, rfl, ?_⟩; have n0_ := Aside0.mk (below_step wB hb); clear HB; have HB := n0_; clear n0_; (try clear hb); (try clear hb2); (try clear hk); (try clear hi)))
                go_ret2
                exact ⟨by first | rfl | (simp [errW_none, errW_some] <;> rfl) | (simp [*, errW_none, errW_some] <;> rfl), wB⟩
            · rw [if_neg c1005] at H
              exact absurd H (by simp)
          · rw [if_neg c1004] at H
            exact absurd H (by simp)
        · rw [if_neg c1003] at H
          have c1003b0 : decide (x17_1 < (t148.length : Int)) = false := decide_eq_false c1003
          clear c1003
          simp only [Option.some.injEq, Prod.mk.injEq] at H
          obtain ⟨rfl, rfl⟩ := H
          go_wp2
          go_ret2
          exact ⟨by first | rfl | (simp [errW_none, errW_some] <;> rfl) | (simp [*, errW_none, errW_some] <;> rfl), wB⟩
  · rw [if_neg c3] at H
    have c3b0 : ((t148.length : Int) == 4) = false := beq_eq_false_iff_ne.mpr c3
    have c3b1 : ((t148.length : Int) != 4) = true := bne_iff_ne.mpr c3
    simp only [Option.some.injEq, Prod.mk.injEq] at H
    obtain ⟨rfl, rfl⟩ := H
    go_enter Tryd.func14, Tryd.ntmps14
    go_wp2_with (first | ((with_reducible refine gate_callee (f := 36) rfl ?_); refine goesL_ (some 11) rfl rfl Tryd.func36 (by kernel_rfl) rfl #[.string a0, .string (⟨#[46]⟩ : ByteArray)] rfl wT ?_; (with_reducible refine (strings_Split.calls a0 (⟨#[46]⟩ : ByteArray) t148 _ ?side1 A2.out).mono ?_); (case side1 => repeat (first | exact HD.out | (with_reducible refine Door.c_alloc ?_ _) | (with_reducible refine Door.c_drewN ?_ _) | (with_reducible refine Door.c_drew ?_))); rintro e w1001 ⟨v149, rfl, ho0, hb⟩; refine ⟨_, rfl, ?_⟩; have n0_ := Aside0.mk (Kd.R_lower ho0 (below_size wB)); have n1_ := Aside0.mk (below_step wB hb); clear HB; have HO150 := n0_; have HB := n1_; clear n0_ n1_; (try clear hb); (try clear hb2); (try clear hk); (try clear hi); (try clear ho0); obtain ⟨Ao1002, co1002, eo1002⟩ := Kd.R_slice HO150.out; subst eo1002))
    go_ret2
    exact ⟨by first | rfl | (simp [errW_none, errW_some] <;> rfl) | (simp [*, errW_none, errW_some] <;> rfl), wB⟩

/-! ### strings_Cut: function 46 -/
def strings_Cut.f (a0 a1 : ByteArray) : Option (ByteArray × ByteArray × Bool) := if a0.size < 4294967281 then some (⟨(Lib.cut a0.data.toList a1.data.toList).1.toArray⟩, ⟨(Lib.cut a0.data.toList a1.data.toList).2.1.toArray⟩, (Lib.cut a0.data.toList a1.data.toList).2.2) else none
theorem strings_Cut.calls (a0 a1 : ByteArray) (r1 r2 : ByteArray) (r3 : Bool) (w : World) (hd : Door w) (h : strings_Cut.f a0 a1 = some (r1, r2, r3)) :
    Calls Tryd.prog 46 #[.string a0, .string a1] w fun e w' => e = .returned (.tuple #[.string r1, .string r2, .bool r3]) ∧ Drawn0 w w' := by
  unfold strings_Cut.f at h
  split at h
  · rename_i hc
    have h := Option.some.inj h
    simp only [Prod.mk.injEq] at h
    obtain ⟨rfl, rfl, rfl⟩ := h
    obtain ⟨m, hm⟩ := hd.1
    refine (Tryd.strings_Cut a0 a1 m w hc hm).mono ?_
    rintro e w' ⟨rfl, k, rfl⟩
    exact ⟨rfl, k, rfl⟩
  · cases h


/-! ### impl_isAddr: function 33 -/
def impl_isAddr.f (a0 : Int) : Option (Bool) := if a0 ≥ 0 then (some (decide (a0 ≤ 4294967295))) else (some false)
set_option maxHeartbeats 60000000 in
set_option maxRecDepth 100000 in
theorem impl_isAddr.calls (a0 : Int) (r : Bool) (w : World) (h : impl_isAddr.f a0 = some r) :
    Calls Tryd.prog 33 #[.int .i64 a0] w fun e w' => e = .returned (.bool r) ∧ Drawn0 w w' := by
  have H : (if a0 ≥ 0 then (some (decide (a0 ≤ 4294967295))) else (some false)) = some r := h
  clear h
  by_cases c2 : a0 ≥ 0
  · rw [if_pos c2] at H
    have c2b0 : decide (0 ≤ a0) = true := decide_eq_true c2
    clear c2
    obtain rfl := Option.some.inj H
    go_enter Tryd.func33, Tryd.ntmps33
    go_wp2
    go_ret
    exact ⟨by first | rfl | (simp; done) | (simp [*]; done), by repeat (first | exact Drawn0.refl _ | apply Drawn0.step)⟩
  · rw [if_neg c2] at H
    have c2b0 : decide (0 ≤ a0) = false := decide_eq_false c2
    clear c2
    obtain rfl := Option.some.inj H
    go_enter Tryd.func33, Tryd.ntmps33
    go_wp2
    go_ret
    exact ⟨by first | rfl | (simp; done) | (simp [*]; done), by repeat (first | exact Drawn0.refl _ | apply Drawn0.step)⟩

/-! ### impl_mask: function 68 -/
def impl_mask.f (a0 : Int) : Option (Int) := if 0 ≤ (wrap64 (32 - a0)) then (some (shl .i64 (shr .i64 4294967295 (wrap64 (32 - a0))) (wrap64 (32 - a0)))) else (none)
set_option maxHeartbeats 60000000 in
set_option maxRecDepth 100000 in
theorem impl_mask.calls (a0 : Int) (r : Int) (w : World) (h : impl_mask.f a0 = some r) :
    Calls Tryd.prog 68 #[.int .i64 a0] w fun e w' => e = .returned (.int .i64 r) ∧ Drawn0 w w' := by
  have H : (if 0 ≤ (wrap64 (32 - a0)) then (some (shl .i64 (shr .i64 4294967295 (wrap64 (32 - a0))) (wrap64 (32 - a0)))) else (none)) = some r := h
  clear h
  obtain ⟨ji2, hji2⟩ : ∃ j_ : Int, (wrap64 (32 - a0)) = j_ := ⟨_, rfl⟩
  replace H : (if 0 ≤ (ji2) then (some (shl .i64 (shr .i64 4294967295 (ji2)) (ji2))) else (none)) = some r := by first | (rw [hji2] at H; exact H) | (simp only [hji2] at H ⊢; exact H)
  have hji2w : (IntKind.i64.wrap (32 - a0)) = ji2 := (i64_w _).trans hji2
  by_cases c3 : 0 ≤ (ji2)
  · rw [if_pos c3] at H
    have c3b0 := eq_true c3
    have c3b1 : decide (0 ≤ (ji2)) = true := decide_eq_true c3
    clear c3
    obtain ⟨ji4, hji4⟩ : ∃ j_ : Int, (shr .i64 4294967295 (ji2)) = j_ := ⟨_, rfl⟩
    replace H : (some (shl .i64 (ji4) (ji2))) = some r := by first | (rw [hji4] at H; exact H) | (simp only [hji4] at H ⊢; exact H)
    have hji4_ : (4294967295 / 2 ^ min (ji2).toNat 64) = ji4 := hji4
    have hji4z : (ji2) ≤ 64 → (4294967295 / 2 ^ (ji2).toNat) = ji4 := shr_small hji4
    have c5b0 := eq_true (of_decide_eq_true (by first | (with_reducible assumption) | assumption) : 0 ≤ (ji2))
    obtain ⟨ji6, hji6⟩ : ∃ j_ : Int, (shl .i64 (ji4) (ji2)) = j_ := ⟨_, rfl⟩
    replace H : (some ji6) = some r := by first | (rw [hji6] at H; exact H) | (simp only [hji6] at H ⊢; exact H)
    have hji6_ : (IntKind.i64.wrap ((ji4) * 2 ^ min (ji2).toNat 64)) = ji6 := hji6
    have hji6z : (ji2) ≤ 64 → (IntKind.i64.wrap ((ji4) * 2 ^ (ji2).toNat)) = ji6 := shl_small hji6
    have hji6y : (wrap64 ((ji4) * 2 ^ min (ji2).toNat 64)) = ji6 := (i64_w _).symm.trans hji6_
    have hji6x : (ji2) ≤ 64 → (wrap64 ((ji4) * 2 ^ (ji2).toNat)) = ji6 := fun h_ => (i64_w _).symm.trans (hji6z h_)
    obtain rfl := Option.some.inj H
    go_enter Tryd.func68, Tryd.ntmps68
    go_wp2
    go_ret
    exact ⟨by first | rfl | (simp; done) | (simp only [← hji2, ← hji4, ← hji6] <;> (first | rfl | simp)) | (simp [*]; done), by repeat (first | exact Drawn0.refl _ | apply Drawn0.step)⟩
  · rw [if_neg c3] at H
    exact absurd H (by simp)

/-! ### impl_okPrefix: function 47 -/
def impl_okPrefix.f (a0_0 : Int) (a0_1 : Int) : Option (Bool) := (impl_isAddr.f a0_0).bind fun t155 => (if t155 = true then (if a0_1 ≥ 0 then (if a0_1 ≤ 32 then ((impl_mask.f a0_1).bind fun t156 => (some ((Go.bits .and .i64 a0_0 t156) == a0_0))) else (some false)) else (some false)) else (some false))
set_option maxHeartbeats 60000000 in
set_option maxRecDepth 100000 in
theorem impl_okPrefix.calls (a0_0 : Int) (a0_1 : Int) (r : Bool) (w : World) (h : impl_okPrefix.f a0_0 a0_1 = some r) :
    Calls Tryd.prog 47 #[.agg #[.int .i64 a0_0, .int .i64 a0_1]] w fun e w' => e = .returned (.bool r) ∧ Below w.heap.size w w' := by
  have hu36 := Tryd.underlying36
  have HB := Aside0.mk (Below.refl w.heap.size w)
  have H : ((impl_isAddr.f a0_0).bind fun t155 => (if t155 = true then (if a0_1 ≥ 0 then (if a0_1 ≤ 32 then ((impl_mask.f a0_1).bind fun t156 => (some ((Go.bits .and .i64 a0_0 t156) == a0_0))) else (some false)) else (some false)) else (some false))) = some r := h
  clear h
  replace H := Option.bind_eq_some_iff.mp H
  obtain ⟨t155, A20, H⟩ := H
  replace H : (if t155 = true then (if a0_1 ≥ 0 then (if a0_1 ≤ 32 then ((impl_mask.f a0_1).bind fun t156 => (some ((Go.bits .and .i64 a0_0 t156) == a0_0))) else (some false)) else (some false)) else (some false)) = some r := H
  have A2 := Aside0.mk A20
  clear A20
  by_cases c3 : t155 = true
  · subst c3
    have H1 : (if a0_1 ≥ 0 then (if a0_1 ≤ 32 then ((impl_mask.f a0_1).bind fun t156 => (some ((Go.bits .and .i64 a0_0 t156) == a0_0))) else (some false)) else (some false)) = some r := by rw [if_pos rfl] at H; exact H
    clear H
    have H := H1
    clear H1
    by_cases c4 : a0_1 ≥ 0
    · rw [if_pos c4] at H
      have c4b0 : decide (0 ≤ a0_1) = true := decide_eq_true c4
      clear c4
      by_cases c5 : a0_1 ≤ 32
      · rw [if_pos c5] at H
        have c5b0 : decide (a0_1 ≤ 32) = true := decide_eq_true c5
        clear c5
        replace H := Option.bind_eq_some_iff.mp H
        obtain ⟨t156, A60, H⟩ := H
        replace H : (some ((Go.bits .and .i64 a0_0 t156) == a0_0)) = some r := H
        have A6 := Aside0.mk A60
        clear A60
        obtain rfl := Option.some.inj H
        go_enter Tryd.func47, Tryd.ntmps47
        go_wp2_with (first | ((with_reducible refine gate_dst (N := 1) rfl ?_); refine box_event ?hg (N := 1) ?hd (cs := #[.int .i64 a0_0, .int .i64 a0_1]) (t := 36) ?hr ?_; (case hd => rfl); (case hg => rfl); (case hr => first | (go_simp; done) | (go_simp; rfl)); intro gb154 hg w1001 hbox hb; have n0_ := Aside0.mk (below_step wB hb); have n1_ := Aside0.mk (hbox); have n2_ := Aside0.mk ((by rw [hg]; exact (below_size wB) : w.heap.size ≤ gb154)); have n3_ := Aside0.mk ((by rw [hg]; exact (below_size wB) : w.heap.size ≤ gb154)); clear HB; have HB := n0_; have BK154 := n1_; have GW154 := n2_; have GE154 := n3_; clear n0_ n1_ n2_ n3_; clear hb hbox hg; obtain ⟨⟨hcz1002_0, hcz1002_1⟩, hfz1002_0, hfz1002_1⟩ := cells2 BK154.out) | (go_at_call 33; (with_reducible refine (impl_isAddr.calls a0_0 true _ A2.out).mono ?_); rintro e w' ⟨rfl, ⟨nd, rfl⟩⟩; (try first | exact ⟨rfl, _, World.drewN_drewN _ _ _⟩ | exact ⟨rfl, _, Eq.trans (World.drewN_drewN _ _ _) (congrArg (World.drewN _) (Nat.add_assoc _ _ _))⟩)) | (go_at_call 68; (with_reducible refine (impl_mask.calls a0_1 t156 _ A6.out).mono ?_); rintro e w' ⟨rfl, ⟨nd, rfl⟩⟩; (try first | exact ⟨rfl, _, World.drewN_drewN _ _ _⟩ | exact ⟨rfl, _, Eq.trans (World.drewN_drewN _ _ _) (congrArg (World.drewN _) (Nat.add_assoc _ _ _))⟩)))
        repeat (go_quiet (first | ((with_reducible refine gate_dst (N := 1) rfl ?_); refine box_event ?hg (N := 1) ?hd (cs := #[.int .i64 a0_0, .int .i64 a0_1]) (t := 36) ?hr ?_; (case hd => rfl); (case hg => rfl); (case hr => first | (go_simp; done) | (go_simp; rfl)); intro gb154 hg w1001 hbox hb; have n0_ := Aside0.mk (below_step wB hb); have n1_ := Aside0.mk (hbox); have n2_ := Aside0.mk ((by rw [hg]; exact (below_size wB) : w.heap.size ≤ gb154)); have n3_ := Aside0.mk ((by rw [hg]; exact (below_size wB) : w.heap.size ≤ gb154)); clear HB; have HB := n0_; have BK154 := n1_; have GW154 := n2_; have GE154 := n3_; clear n0_ n1_ n2_ n3_; clear hb hbox hg; obtain ⟨⟨hcz1002_0, hcz1002_1⟩, hfz1002_0, hfz1002_1⟩ := cells2 BK154.out) | (go_at_call 33; (with_reducible refine (impl_isAddr.calls a0_0 true _ A2.out).mono ?_); rintro e w' ⟨rfl, ⟨nd, rfl⟩⟩; (try first | exact ⟨rfl, _, World.drewN_drewN _ _ _⟩ | exact ⟨rfl, _, Eq.trans (World.drewN_drewN _ _ _) (congrArg (World.drewN _) (Nat.add_assoc _ _ _))⟩)) | (go_at_call 68; (with_reducible refine (impl_mask.calls a0_1 t156 _ A6.out).mono ?_); rintro e w' ⟨rfl, ⟨nd, rfl⟩⟩; (try first | exact ⟨rfl, _, World.drewN_drewN _ _ _⟩ | exact ⟨rfl, _, Eq.trans (World.drewN_drewN _ _ _) (congrArg (World.drewN _) (Nat.add_assoc _ _ _))⟩))); try go_wp2_with (first | ((with_reducible refine gate_dst (N := 1) rfl ?_); refine box_event ?hg (N := 1) ?hd (cs := #[.int .i64 a0_0, .int .i64 a0_1]) (t := 36) ?hr ?_; (case hd => rfl); (case hg => rfl); (case hr => first | (go_simp; done) | (go_simp; rfl)); intro gb154 hg w1001 hbox hb; have n0_ := Aside0.mk (below_step wB hb); have n1_ := Aside0.mk (hbox); have n2_ := Aside0.mk ((by rw [hg]; exact (below_size wB) : w.heap.size ≤ gb154)); have n3_ := Aside0.mk ((by rw [hg]; exact (below_size wB) : w.heap.size ≤ gb154)); clear HB; have HB := n0_; have BK154 := n1_; have GW154 := n2_; have GE154 := n3_; clear n0_ n1_ n2_ n3_; clear hb hbox hg; obtain ⟨⟨hcz1002_0, hcz1002_1⟩, hfz1002_0, hfz1002_1⟩ := cells2 BK154.out) | (go_at_call 33; (with_reducible refine (impl_isAddr.calls a0_0 true _ A2.out).mono ?_); rintro e w' ⟨rfl, ⟨nd, rfl⟩⟩; (try first | exact ⟨rfl, _, World.drewN_drewN _ _ _⟩ | exact ⟨rfl, _, Eq.trans (World.drewN_drewN _ _ _) (congrArg (World.drewN _) (Nat.add_assoc _ _ _))⟩)) | (go_at_call 68; (with_reducible refine (impl_mask.calls a0_1 t156 _ A6.out).mono ?_); rintro e w' ⟨rfl, ⟨nd, rfl⟩⟩; (try first | exact ⟨rfl, _, World.drewN_drewN _ _ _⟩ | exact ⟨rfl, _, Eq.trans (World.drewN_drewN _ _ _) (congrArg (World.drewN _) (Nat.add_assoc _ _ _))⟩))))
        go_ret
        exact ⟨by first | rfl | (simp [errW_none, errW_some] <;> rfl) | (simp [*, errW_none, errW_some] <;> rfl), wB⟩
      · rw [if_neg c5] at H
        have c5b0 : decide (a0_1 ≤ 32) = false := decide_eq_false c5
        clear c5
        obtain rfl := Option.some.inj H
        go_enter Tryd.func47, Tryd.ntmps47
        go_wp2_with (first | ((with_reducible refine gate_dst (N := 1) rfl ?_); refine box_event ?hg (N := 1) ?hd (cs := #[.int .i64 a0_0, .int .i64 a0_1]) (t := 36) ?hr ?_; (case hd => rfl); (case hg => rfl); (case hr => first | (go_simp; done) | (go_simp; rfl)); intro gb154 hg w1001 hbox hb; have n0_ := Aside0.mk (below_step wB hb); have n1_ := Aside0.mk (hbox); have n2_ := Aside0.mk ((by rw [hg]; exact (below_size wB) : w.heap.size ≤ gb154)); have n3_ := Aside0.mk ((by rw [hg]; exact (below_size wB) : w.heap.size ≤ gb154)); clear HB; have HB := n0_; have BK154 := n1_; have GW154 := n2_; have GE154 := n3_; clear n0_ n1_ n2_ n3_; clear hb hbox hg; obtain ⟨⟨hcz1002_0, hcz1002_1⟩, hfz1002_0, hfz1002_1⟩ := cells2 BK154.out) | (go_at_call 33; (with_reducible refine (impl_isAddr.calls a0_0 true _ A2.out).mono ?_); rintro e w' ⟨rfl, ⟨nd, rfl⟩⟩; (try first | exact ⟨rfl, _, World.drewN_drewN _ _ _⟩ | exact ⟨rfl, _, Eq.trans (World.drewN_drewN _ _ _) (congrArg (World.drewN _) (Nat.add_assoc _ _ _))⟩)))
        repeat (go_quiet (first | ((with_reducible refine gate_dst (N := 1) rfl ?_); refine box_event ?hg (N := 1) ?hd (cs := #[.int .i64 a0_0, .int .i64 a0_1]) (t := 36) ?hr ?_; (case hd => rfl); (case hg => rfl); (case hr => first | (go_simp; done) | (go_simp; rfl)); intro gb154 hg w1001 hbox hb; have n0_ := Aside0.mk (below_step wB hb); have n1_ := Aside0.mk (hbox); have n2_ := Aside0.mk ((by rw [hg]; exact (below_size wB) : w.heap.size ≤ gb154)); have n3_ := Aside0.mk ((by rw [hg]; exact (below_size wB) : w.heap.size ≤ gb154)); clear HB; have HB := n0_; have BK154 := n1_; have GW154 := n2_; have GE154 := n3_; clear n0_ n1_ n2_ n3_; clear hb hbox hg; obtain ⟨⟨hcz1002_0, hcz1002_1⟩, hfz1002_0, hfz1002_1⟩ := cells2 BK154.out) | (go_at_call 33; (with_reducible refine (impl_isAddr.calls a0_0 true _ A2.out).mono ?_); rintro e w' ⟨rfl, ⟨nd, rfl⟩⟩; (try first | exact ⟨rfl, _, World.drewN_drewN _ _ _⟩ | exact ⟨rfl, _, Eq.trans (World.drewN_drewN _ _ _) (congrArg (World.drewN _) (Nat.add_assoc _ _ _))⟩))); try go_wp2_with (first | ((with_reducible refine gate_dst (N := 1) rfl ?_); refine box_event ?hg (N := 1) ?hd (cs := #[.int .i64 a0_0, .int .i64 a0_1]) (t := 36) ?hr ?_; (case hd => rfl); (case hg => rfl); (case hr => first | (go_simp; done) | (go_simp; rfl)); intro gb154 hg w1001 hbox hb; have n0_ := Aside0.mk (below_step wB hb); have n1_ := Aside0.mk (hbox); have n2_ := Aside0.mk ((by rw [hg]; exact (below_size wB) : w.heap.size ≤ gb154)); have n3_ := Aside0.mk ((by rw [hg]; exact (below_size wB) : w.heap.size ≤ gb154)); clear HB; have HB := n0_; have BK154 := n1_; have GW154 := n2_; have GE154 := n3_; clear n0_ n1_ n2_ n3_; clear hb hbox hg; obtain ⟨⟨hcz1002_0, hcz1002_1⟩, hfz1002_0, hfz1002_1⟩ := cells2 BK154.out) | (go_at_call 33; (with_reducible refine (impl_isAddr.calls a0_0 true _ A2.out).mono ?_); rintro e w' ⟨rfl, ⟨nd, rfl⟩⟩; (try first | exact ⟨rfl, _, World.drewN_drewN _ _ _⟩ | exact ⟨rfl, _, Eq.trans (World.drewN_drewN _ _ _) (congrArg (World.drewN _) (Nat.add_assoc _ _ _))⟩))))
        go_ret
        exact ⟨by first | rfl | (simp [errW_none, errW_some] <;> rfl) | (simp [*, errW_none, errW_some] <;> rfl), wB⟩
    · rw [if_neg c4] at H
      have c4b0 : decide (0 ≤ a0_1) = false := decide_eq_false c4
      clear c4
      obtain rfl := Option.some.inj H
      go_enter Tryd.func47, Tryd.ntmps47
      go_wp2_with (first | ((with_reducible refine gate_dst (N := 1) rfl ?_); refine box_event ?hg (N := 1) ?hd (cs := #[.int .i64 a0_0, .int .i64 a0_1]) (t := 36) ?hr ?_; (case hd => rfl); (case hg => rfl); (case hr => first | (go_simp; done) | (go_simp; rfl)); intro gb154 hg w1001 hbox hb; have n0_ := Aside0.mk (below_step wB hb); have n1_ := Aside0.mk (hbox); have n2_ := Aside0.mk ((by rw [hg]; exact (below_size wB) : w.heap.size ≤ gb154)); have n3_ := Aside0.mk ((by rw [hg]; exact (below_size wB) : w.heap.size ≤ gb154)); clear HB; have HB := n0_; have BK154 := n1_; have GW154 := n2_; have GE154 := n3_; clear n0_ n1_ n2_ n3_; clear hb hbox hg; obtain ⟨⟨hcz1002_0, hcz1002_1⟩, hfz1002_0, hfz1002_1⟩ := cells2 BK154.out) | (go_at_call 33; (with_reducible refine (impl_isAddr.calls a0_0 true _ A2.out).mono ?_); rintro e w' ⟨rfl, ⟨nd, rfl⟩⟩; (try first | exact ⟨rfl, _, World.drewN_drewN _ _ _⟩ | exact ⟨rfl, _, Eq.trans (World.drewN_drewN _ _ _) (congrArg (World.drewN _) (Nat.add_assoc _ _ _))⟩)))
      repeat (go_quiet (first | ((with_reducible refine gate_dst (N := 1) rfl ?_); refine box_event ?hg (N := 1) ?hd (cs := #[.int .i64 a0_0, .int .i64 a0_1]) (t := 36) ?hr ?_; (case hd => rfl); (case hg => rfl); (case hr => first | (go_simp; done) | (go_simp; rfl)); intro gb154 hg w1001 hbox hb; have n0_ := Aside0.mk (below_step wB hb); have n1_ := Aside0.mk (hbox); have n2_ := Aside0.mk ((by rw [hg]; exact (below_size wB) : w.heap.size ≤ gb154)); have n3_ := Aside0.mk ((by rw [hg]; exact (below_size wB) : w.heap.size ≤ gb154)); clear HB; have HB := n0_; have BK154 := n1_; have GW154 := n2_; have GE154 := n3_; clear n0_ n1_ n2_ n3_; clear hb hbox hg; obtain ⟨⟨hcz1002_0, hcz1002_1⟩, hfz1002_0, hfz1002_1⟩ := cells2 BK154.out) | (go_at_call 33; (with_reducible refine (impl_isAddr.calls a0_0 true _ A2.out).mono ?_); rintro e w' ⟨rfl, ⟨nd, rfl⟩⟩; (try first | exact ⟨rfl, _, World.drewN_drewN _ _ _⟩ | exact ⟨rfl, _, Eq.trans (World.drewN_drewN _ _ _) (congrArg (World.drewN _) (Nat.add_assoc _ _ _))⟩))); try go_wp2_with (first | ((with_reducible refine gate_dst (N := 1) rfl ?_); refine box_event ?hg (N := 1) ?hd (cs := #[.int .i64 a0_0, .int .i64 a0_1]) (t := 36) ?hr ?_; (case hd => rfl); (case hg => rfl); (case hr => first | (go_simp; done) | (go_simp; rfl)); intro gb154 hg w1001 hbox hb; have n0_ := Aside0.mk (below_step wB hb); have n1_ := Aside0.mk (hbox); have n2_ := Aside0.mk ((by rw [hg]; exact (below_size wB) : w.heap.size ≤ gb154)); have n3_ := Aside0.mk ((by rw [hg]; exact (below_size wB) : w.heap.size ≤ gb154)); clear HB; have HB := n0_; have BK154 := n1_; have GW154 := n2_; have GE154 := n3_; clear n0_ n1_ n2_ n3_; clear hb hbox hg; obtain ⟨⟨hcz1002_0, hcz1002_1⟩, hfz1002_0, hfz1002_1⟩ := cells2 BK154.out) | (go_at_call 33; (with_reducible refine (impl_isAddr.calls a0_0 true _ A2.out).mono ?_); rintro e w' ⟨rfl, ⟨nd, rfl⟩⟩; (try first | exact ⟨rfl, _, World.drewN_drewN _ _ _⟩ | exact ⟨rfl, _, Eq.trans (World.drewN_drewN _ _ _) (congrArg (World.drewN _) (Nat.add_assoc _ _ _))⟩))))
      go_ret
      exact ⟨by first | rfl | (simp [errW_none, errW_some] <;> rfl) | (simp [*, errW_none, errW_some] <;> rfl), wB⟩
  · replace c3 := Bool.eq_false_iff.mpr c3
    subst c3
    have H1 : (some false) = some r := by rw [if_neg (show ¬ (false = true) by decide)] at H; exact H
    clear H
    have H := H1
    clear H1
    obtain rfl := Option.some.inj H
    go_enter Tryd.func47, Tryd.ntmps47
    go_wp2_with (first | ((with_reducible refine gate_dst (N := 1) rfl ?_); refine box_event ?hg (N := 1) ?hd (cs := #[.int .i64 a0_0, .int .i64 a0_1]) (t := 36) ?hr ?_; (case hd => rfl); (case hg => rfl); (case hr => first | (go_simp; done) | (go_simp; rfl)); intro gb154 hg w1001 hbox hb; have n0_ := Aside0.mk (below_step wB hb); have n1_ := Aside0.mk (hbox); have n2_ := Aside0.mk ((by rw [hg]; exact (below_size wB) : w.heap.size ≤ gb154)); have n3_ := Aside0.mk ((by rw [hg]; exact (below_size wB) : w.heap.size ≤ gb154)); clear HB; have HB := n0_; have BK154 := n1_; have GW154 := n2_; have GE154 := n3_; clear n0_ n1_ n2_ n3_; clear hb hbox hg; obtain ⟨⟨hcz1002_0, hcz1002_1⟩, hfz1002_0, hfz1002_1⟩ := cells2 BK154.out) | (go_at_call 33; (with_reducible refine (impl_isAddr.calls a0_0 false _ A2.out).mono ?_); rintro e w' ⟨rfl, ⟨nd, rfl⟩⟩; (try first | exact ⟨rfl, _, World.drewN_drewN _ _ _⟩ | exact ⟨rfl, _, Eq.trans (World.drewN_drewN _ _ _) (congrArg (World.drewN _) (Nat.add_assoc _ _ _))⟩)))
    repeat (go_quiet (first | ((with_reducible refine gate_dst (N := 1) rfl ?_); refine box_event ?hg (N := 1) ?hd (cs := #[.int .i64 a0_0, .int .i64 a0_1]) (t := 36) ?hr ?_; (case hd => rfl); (case hg => rfl); (case hr => first | (go_simp; done) | (go_simp; rfl)); intro gb154 hg w1001 hbox hb; have n0_ := Aside0.mk (below_step wB hb); have n1_ := Aside0.mk (hbox); have n2_ := Aside0.mk ((by rw [hg]; exact (below_size wB) : w.heap.size ≤ gb154)); have n3_ := Aside0.mk ((by rw [hg]; exact (below_size wB) : w.heap.size ≤ gb154)); clear HB; have HB := n0_; have BK154 := n1_; have GW154 := n2_; have GE154 := n3_; clear n0_ n1_ n2_ n3_; clear hb hbox hg; obtain ⟨⟨hcz1002_0, hcz1002_1⟩, hfz1002_0, hfz1002_1⟩ := cells2 BK154.out) | (go_at_call 33; (with_reducible refine (impl_isAddr.calls a0_0 false _ A2.out).mono ?_); rintro e w' ⟨rfl, ⟨nd, rfl⟩⟩; (try first | exact ⟨rfl, _, World.drewN_drewN _ _ _⟩ | exact ⟨rfl, _, Eq.trans (World.drewN_drewN _ _ _) (congrArg (World.drewN _) (Nat.add_assoc _ _ _))⟩))); try go_wp2_with (first | ((with_reducible refine gate_dst (N := 1) rfl ?_); refine box_event ?hg (N := 1) ?hd (cs := #[.int .i64 a0_0, .int .i64 a0_1]) (t := 36) ?hr ?_; (case hd => rfl); (case hg => rfl); (case hr => first | (go_simp; done) | (go_simp; rfl)); intro gb154 hg w1001 hbox hb; have n0_ := Aside0.mk (below_step wB hb); have n1_ := Aside0.mk (hbox); have n2_ := Aside0.mk ((by rw [hg]; exact (below_size wB) : w.heap.size ≤ gb154)); have n3_ := Aside0.mk ((by rw [hg]; exact (below_size wB) : w.heap.size ≤ gb154)); clear HB; have HB := n0_; have BK154 := n1_; have GW154 := n2_; have GE154 := n3_; clear n0_ n1_ n2_ n3_; clear hb hbox hg; obtain ⟨⟨hcz1002_0, hcz1002_1⟩, hfz1002_0, hfz1002_1⟩ := cells2 BK154.out) | (go_at_call 33; (with_reducible refine (impl_isAddr.calls a0_0 false _ A2.out).mono ?_); rintro e w' ⟨rfl, ⟨nd, rfl⟩⟩; (try first | exact ⟨rfl, _, World.drewN_drewN _ _ _⟩ | exact ⟨rfl, _, Eq.trans (World.drewN_drewN _ _ _) (congrArg (World.drewN _) (Nat.add_assoc _ _ _))⟩))))
    go_ret
    exact ⟨by first | rfl | (simp [errW_none, errW_some] <;> rfl) | (simp [*, errW_none, errW_some] <;> rfl), wB⟩

/-! ### impl_ReadPrefix: function 19 -/
def impl_ReadPrefix.f (k : Nat) (a0 : ByteArray) : Option (Int × Int × Int) := (strings_Cut.f a0 (⟨#[47]⟩ : ByteArray)).bind fun bt158 => ((impl_ReadAddr.f k bt158.1).bind fun bt161 => ((impl_decimal.f k bt158.2.1 2).bind fun bt163 => (if bt161.2 = 0 then (if bt163.2 = true then ((impl_okPrefix.f bt161.1 bt163.1).bind fun t166 => (if t166 = true then (some (bt161.1, bt163.1, 0)) else (some (0, 0, 6)))) else (some (0, 0, 6))) else (some (0, 0, 6)))))
theorem impl_ReadPrefix.mono : ∀ a0 k, LeO (impl_ReadPrefix.f k a0) (impl_ReadPrefix.f (k + 1) a0) := by
 intro a0 k
 unfold impl_ReadPrefix.f
 repeat' first
     | (with_reducible exact impl_ReadAddr.mono _ _)
     | (with_reducible exact impl_decimal.mono _ _ _)
     | (with_reducible exact LeO.refl _)
     | (with_reducible exact LeO.none _)
     | (with_reducible refine LeO.ite ?_ ?_)
     | (with_reducible refine LeO.bind ?_ (fun _ => ?_))
     | exact impl_ReadAddr.mono _ _
     | exact impl_decimal.mono _ _ _
     | exact LeO.none _
     | refine LeO.ite ?_ ?_
     | refine LeO.bind ?_ (fun _ => ?_)
set_option maxHeartbeats 60000000 in
set_option maxRecDepth 100000 in
theorem impl_ReadPrefix.calls (k : Nat) (a0 : ByteArray) (r1 : Int) (r2 : Int) (r3 : Int) (w : World) (hd : Door w) (h : impl_ReadPrefix.f k a0 = some (r1, r2, r3)) :
 Calls Tryd.prog 19 #[.string a0] w fun e w' => e = .returned (.tuple #[.agg #[.int .i64 r1, .int .i64 r2], .int .i64 r3]) ∧ Below w.heap.size w w' := by
 have hu36 := Tryd.underlying36
 have HD := Aside0.mk hd
 clear hd
 have HB := Aside0.mk (Below.refl w.heap.size w)
 have H : ((strings_Cut.f a0 (⟨#[47]⟩ : ByteArray)).bind fun bt158 => ((impl_ReadAddr.f k bt158.1).bind fun bt161 => ((impl_decimal.f k bt158.2.1 2).bind fun bt163 => (if bt161.2 = 0 then (if bt163.2 = true then ((impl_okPrefix.f bt161.1 bt163.1).bind fun t166 => (if t166 = true then (some (bt161.1, bt163.1, 0)) else (some (0, 0, 6)))) else (some (0, 0, 6))) else (some (0, 0, 6)))))) = some (r1, r2, r3) := h
 clear h
 replace H := Option.bind_eq_some_iff.mp H
 obtain ⟨⟨t158, t159, t160⟩, A20, H⟩ := H
 replace H : ((impl_ReadAddr.f k t158).bind fun bt161 => ((impl_decimal.f k t159 2).bind fun bt163 => (if bt161.2 = 0 then (if bt163.2 = true then ((impl_okPrefix.f bt161.1 bt163.1).bind fun t166 => (if t166 = true then (some (bt161.1, bt163.1, 0)) else (some (0, 0, 6)))) else (some (0, 0, 6))) else (some (0, 0, 6))))) = some (r1, r2, r3) := H
 have A2 := Aside0.mk A20
 clear A20
 replace H := Option.bind_eq_some_iff.mp H
 obtain ⟨⟨t161, t162⟩, A30, H⟩ := H
 replace H : ((impl_decimal.f k t159 2).bind fun bt163 => (if t162 = 0 then (if bt163.2 = true then ((impl_okPrefix.f t161 bt163.1).bind fun t166 => (if t166 = true then (some (t161, bt163.1, 0)) else (some (0, 0, 6)))) else (some (0, 0, 6))) else (some (0, 0, 6)))) = some (r1, r2, r3) := H
 have A3 := Aside0.mk A30
 clear A30
 replace H := Option.bind_eq_some_iff.mp H
 obtain ⟨⟨t163, t164⟩, A40, H⟩ := H
 replace H : (if t162 = 0 then (if t164 = true then ((impl_okPrefix.f t161 t163).bind fun t166 => (if t166 = true then (some (t161, t163, 0)) else (some (0, 0, 6)))) else (some (0, 0, 6))) else (some (0, 0, 6))) = some (r1, r2, r3) := H
 have A4 := Aside0.mk A40
 clear A40
 by_cases c5 : t162 = 0
 {
 rw [if_pos c5] at H
 have c5b0 : (t162 == 0) = true := beq_iff_eq.mpr c5
 have c5b1 : (t162 != 0) = false := bne_eq_false_iff_eq.mpr c5
 clear c5
 by_cases c6 : t164 = true
 {
 subst c6
 have H1 : ((impl_okPrefix.f t161 t163).bind fun t166 => (if t166 = true then (some (t161, t163, 0)) else (some (0, 0, 6)))) = some (r1, r2, r3) := by rw [if_pos rfl] at H; exact H
 clear H
 have H := H1
 clear H1
 replace H := Option.bind_eq_some_iff.mp H
 obtain ⟨t166, A70, H⟩ := H
 replace H : (if t166 = true then (some (t161, t163, 0)) else (some (0, 0, 6))) = some (r1, r2, r3) := H
 have A7 := Aside0.mk A70
 clear A70
 by_cases c8 : t166 = true
 {
 subst c8
 have H1 : (some (t161, t163, 0)) = some (r1, r2, r3) := by rw [if_pos rfl] at H; exact H
 clear H
 have H := H1
 clear H1
 simp only [Option.some.injEq, Prod.mk.injEq] at H
 obtain ⟨rfl, rfl, rfl⟩ := H
 go_enter Tryd.func19, Tryd.ntmps19
 go_wp2_with (first | ((with_reducible refine gate_dst (N := 2) rfl ?_); refine box_event ?hg (N := 2) ?hd (cs := #[.int .i64 0, .int .i64 0]) (t := 36) ?hr ?_; (case hd => rfl); (case hg => rfl); (case hr => first | (go_simp; done) | (go_simp; rfl)); intro gb157 hg w1001 hbox hb; have n0_ := Aside0.mk (below_step wB hb); have n1_ := Aside0.mk (hbox); have n2_ := Aside0.mk ((by rw [hg]; exact (below_size wB) : w.heap.size ≤ gb157)); have n3_ := Aside0.mk ((by rw [hg]; exact (below_size wB) : w.heap.size ≤ gb157)); clear HB; have HB := n0_; have BK157 := n1_; have GW157 := n2_; have GE157 := n3_; clear n0_ n1_ n2_ n3_; clear hb hbox hg) | ((with_reducible refine gate_callee (f := 46) rfl ?_); refine goesL_ (some 14) rfl rfl Tryd.func46 (by kernel_rfl) rfl #[.string a0, .string (⟨#[47]⟩ : ByteArray)] rfl wT ?_; (with_reducible refine (strings_Cut.calls a0 (⟨#[47]⟩ : ByteArray) t158 t159 t160 _ ?side1 A2.out).mono ?_); (case side1 => repeat (first | exact (Door.c_below HD.out HB.out) | (with_reducible refine Door.c_alloc ?_ _) | (with_reducible refine Door.c_drewN ?_ _) | (with_reducible refine Door.c_drew ?_))); rintro e w' ⟨rfl, ⟨nd, rfl⟩⟩; refine ⟨_, rfl, ?_⟩; (try (rw [drewN_self w1001]; generalize hq_ : World.drewN w1001 _ = w1001; have n0_ := Aside0.mk (blk_at hq_ BK157.out); have n1_ := Aside0.mk (below_at hq_ HB.out); clear hq_ BK157 HB; have BK157 := n0_; have HB := n1_; clear n0_ n1_; (try (obtain ⟨⟨hcyBK157_0, hcyBK157_1⟩, hfyBK157_0, hfyBK157_1⟩ := cells2 BK157.out))))) | ((with_reducible refine gate_callee (f := 14) rfl ?_); refine goesL_ (some 20) rfl rfl Tryd.func14 (by kernel_rfl) rfl #[.string t158] rfl wT ?_; (with_reducible refine (impl_ReadAddr.calls k t158 t161 t162 _ ?side1 A3.out).mono ?_); (case side1 => repeat (first | exact (Door.c_below HD.out HB.out) | (with_reducible refine Door.c_alloc ?_ _) | (with_reducible refine Door.c_drewN ?_ _) | (with_reducible refine Door.c_drew ?_))); rintro e w1002 ⟨rfl, hb⟩; refine ⟨_, rfl, ?_⟩; have n0_ := Aside0.mk (blk_below (Bh BK157) hb); have n1_ := Aside0.mk (below_step wB hb); clear BK157; clear HB; have BK157 := n0_; have HB := n1_; clear n0_ n1_; (try clear hb); (try clear hb2); (try clear hk); (try clear hi)) | ((with_reducible refine gate_callee (f := 37) rfl ?_); refine goesL_ (some 25) rfl rfl Tryd.func37 (by kernel_rfl) rfl #[.string t159, .int .i64 2] rfl wT ?_; (with_reducible refine (impl_decimal.calls k t159 2 t163 true _ A4.out).mono ?_); rintro e w1003 ⟨rfl, hb⟩; refine ⟨_, rfl, ?_⟩; have n0_ := Aside0.mk (blk_below (Bh BK157) hb); have n1_ := Aside0.mk (below_step wB hb); clear BK157; clear HB; have BK157 := n0_; have HB := n1_; clear n0_ n1_; (try clear hb); (try clear hb2); (try clear hk); (try clear hi)) | ((with_reducible refine gate_dst (N := 11) rfl ?_); refine box_event ?hg (N := 11) ?hd (cs := #[.int .i64 0, .int .i64 0]) (t := 36) ?hr ?_; (case hd => rfl); (case hg => rfl); (case hr => first | (go_simp; done) | (go_simp; rfl)); intro gb165 hg w1004 hbox hb; have n0_ := Aside0.mk (blk_below (Bh BK157) hb); have n1_ := Aside0.mk (below_step wB hb); have n2_ := Aside0.mk (hbox); have n3_ := Aside0.mk ((by rw [hg]; exact (below_size wB) : w.heap.size ≤ gb165)); have n4_ := Aside0.mk ((by rw [hg]; exact (below_size wB) : w.heap.size ≤ gb165)); have n5_ := Aside0.mk ((by rw [hg]; exact Nat.ne_of_lt (blk_lt (Bh BK157)) : gb157 ≠ gb165)); have n6_ := Aside0.mk ((by rw [hg]; exact Nat.ne_of_gt (blk_lt (Bh BK157)) : gb165 ≠ gb157)); clear BK157; clear HB; have BK157 := n0_; have HB := n1_; have BK165 := n2_; have GW165 := n3_; have GE165 := n4_; have NB157_165 := n5_; have NB165_157 := n6_; clear n0_ n1_ n2_ n3_ n4_ n5_ n6_; clear hb hbox hg; have hnb1005 := NB165_157.out; have hnc1005 := NB157_165.out; obtain ⟨⟨hcz1006_0, hcz1006_1⟩, hfz1006_0, hfz1006_1⟩ := cells2 BK165.out) | ((with_reducible refine gate_store (t := 36) (p := 11) rfl ?_); refine store_event (t := 36) (p := 11) (v := ?_) (w1 := ((w1004.setCell ⟨gb165, 0, none⟩ (.int .i64 t161)).setCell ⟨gb165, 1, none⟩ (.int .i64 t163))) ?hg ?ho ?hn ?hr ?_; (case ho => rfl); (case hg => rfl); (case hn => rfl); (case hr => first | (go_simp; done) | (go_simp; rfl)); intro w1007 hw; have n0_ : Aside0 (w1007.heap[gb157]? = some (.cells #[.int .i64 0, .int .i64 0] 36 (0, 0))) := ⟨(by rw [hw]; exact (by (with_reducible repeat (first | refine blk_drewN ?_ _ | refine blk_drew ?_ | refine blk_alloc ?_ _)); refine blk_far ?_ NB157_165.out _; (with_reducible repeat (first | refine blk_drewN ?_ _ | refine blk_drew ?_ | refine blk_alloc ?_ _)); refine blk_far ?_ NB157_165.out _; (with_reducible repeat (first | refine blk_drewN ?_ _ | refine blk_drew ?_ | refine blk_alloc ?_ _)); exact BK157.out))⟩; have n1_ : Aside0 (w1007.heap[gb165]? = some (.cells #[.int .i64 t161, .int .i64 t163] 36 (0, 0))) := ⟨(by rw [hw]; exact (by (with_reducible repeat (first | refine blk_drewN ?_ _ | refine blk_drew ?_ | refine blk_alloc ?_ _)); refine blk_put (cs := #[.int .i64 t161, .int .i64 0]) ?_ 1 _ rfl; (with_reducible repeat (first | refine blk_drewN ?_ _ | refine blk_drew ?_ | refine blk_alloc ?_ _)); refine blk_put (cs := #[.int .i64 0, .int .i64 0]) ?_ 0 _ rfl; (with_reducible repeat (first | refine blk_drewN ?_ _ | refine blk_drew ?_ | refine blk_alloc ?_ _)); exact BK165.out))⟩; have n2_ : Aside0 (Below w.heap.size w w1007) := ⟨(by rw [hw]; exact wB)⟩; clear hw; clear BK157; clear BK165; clear HB; have BK157 := n0_; have BK165 := n1_; have HB := n2_; clear n0_ n1_ n2_; obtain ⟨⟨hcz1008_0, hcz1008_1⟩, hfz1008_0, hfz1008_1⟩ := cells2 BK165.out) | (go_at_call 47; (with_reducible refine (impl_okPrefix.calls t161 t163 true _ A7.out).mono ?_); rintro e w1009 ⟨rfl, hb⟩; have n0_ := Aside0.mk (blk_below (Bh BK157) hb); have n1_ := Aside0.mk (blk_below (Bh BK165) hb); have n2_ := Aside0.mk (below_step wB hb); clear BK157; clear BK165; clear HB; have BK157 := n0_; have BK165 := n1_; have HB := n2_; clear n0_ n1_ n2_; (try clear hb); (try clear hb2); (try clear hk); (try clear hi); obtain ⟨⟨hcz1010_0, hcz1010_1⟩, hfz1010_0, hfz1010_1⟩ := cells2 BK165.out; obtain ⟨⟨hcz1011_0, hcz1011_1⟩, hfz1011_0, hfz1011_1⟩ := cells2 BK157.out) | ((with_reducible refine gate_store (t := 36) (p := 2) rfl ?_); refine store_event (t := 36) (p := 2) (v := ?_) (w1 := ((w1009.setCell ⟨gb157, 0, none⟩ (.int .i64 t161)).setCell ⟨gb157, 1, none⟩ (.int .i64 t163))) ?hg ?ho ?hn ?hr ?_; (case ho => rfl); (case hg => rfl); (case hn => rfl); (case hr => first | (go_simp; done) | (go_simp; rfl)); intro w1012 hw; have n0_ : Aside0 (w1012.heap[gb157]? = some (.cells #[.int .i64 t161, .int .i64 t163] 36 (0, 0))) := ⟨(by rw [hw]; exact (by (with_reducible repeat (first | refine blk_drewN ?_ _ | refine blk_drew ?_ | refine blk_alloc ?_ _)); refine blk_put (cs := #[.int .i64 t161, .int .i64 0]) ?_ 1 _ rfl; (with_reducible repeat (first | refine blk_drewN ?_ _ | refine blk_drew ?_ | refine blk_alloc ?_ _)); refine blk_put (cs := #[.int .i64 0, .int .i64 0]) ?_ 0 _ rfl; (with_reducible repeat (first | refine blk_drewN ?_ _ | refine blk_drew ?_ | refine blk_alloc ?_ _)); exact BK157.out))⟩; have n1_ : Aside0 (w1012.heap[gb165]? = some (.cells #[.int .i64 t161, .int .i64 t163] 36 (0, 0))) := ⟨(by rw [hw]; exact (by (with_reducible repeat (first | refine blk_drewN ?_ _ | refine blk_drew ?_ | refine blk_alloc ?_ _)); refine blk_far ?_ NB165_157.out _; (with_reducible repeat (first | refine blk_drewN ?_ _ | refine blk_drew ?_ | refine blk_alloc ?_ _)); refine blk_far ?_ NB165_157.out _; (with_reducible repeat (first | refine blk_drewN ?_ _ | refine blk_drew ?_ | refine blk_alloc ?_ _)); exact BK165.out))⟩; have n2_ : Aside0 (Below w.heap.size w w1012) := ⟨(by rw [hw]; exact wB)⟩; clear hw; clear BK157; clear BK165; clear HB; have BK157 := n0_; have BK165 := n1_; have HB := n2_; clear n0_ n1_ n2_))
 refine bodyPost_ret (results_ct rfl _ _ gb157 36 #[.int .i64 t161, .int .i64 t163] (0, 0) _ rfl (Bh BK157) Tryd.underlying36 rfl (by kernel_rfl)) rfl ?_
 exact ⟨by first | rfl | (simp [errW_none, errW_some] <;> rfl) | (simp [*, errW_none, errW_some] <;> rfl), wB⟩
 }
 {
 replace c8 := Bool.eq_false_iff.mpr c8
 subst c8
 have H1 : (some (0, 0, 6)) = some (r1, r2, r3) := by rw [if_neg (show ¬ (false = true) by decide)] at H; exact H
 clear H
 have H := H1
 clear H1
 simp only [Option.some.injEq, Prod.mk.injEq] at H
 obtain ⟨rfl, rfl, rfl⟩ := H
 go_enter Tryd.func19, Tryd.ntmps19
 go_wp2_with (first | ((with_reducible refine gate_dst (N := 2) rfl ?_); refine box_event ?hg (N := 2) ?hd (cs := #[.int .i64 0, .int .i64 0]) (t := 36) ?hr ?_; (case hd => rfl); (case hg => rfl); (case hr => first | (go_simp; done) | (go_simp; rfl)); intro gb157 hg w1001 hbox hb; have n0_ := Aside0.mk (below_step wB hb); have n1_ := Aside0.mk (hbox); have n2_ := Aside0.mk ((by rw [hg]; exact (below_size wB) : w.heap.size ≤ gb157)); have n3_ := Aside0.mk ((by rw [hg]; exact (below_size wB) : w.heap.size ≤ gb157)); clear HB; have HB := n0_; have BK157 := n1_; have GW157 := n2_; have GE157 := n3_; clear n0_ n1_ n2_ n3_; clear hb hbox hg) | ((with_reducible refine gate_callee (f := 46) rfl ?_); refine goesL_ (some 14) rfl rfl Tryd.func46 (by kernel_rfl) rfl #[.string a0, .string (⟨#[47]⟩ : ByteArray)] rfl wT ?_; (with_reducible refine (strings_Cut.calls a0 (⟨#[47]⟩ : ByteArray) t158 t159 t160 _ ?side1 A2.out).mono ?_); (case side1 => repeat (first | exact (Door.c_below HD.out HB.out) | (with_reducible refine Door.c_alloc ?_ _) | (with_reducible refine Door.c_drewN ?_ _) | (with_reducible refine Door.c_drew ?_))); rintro e w' ⟨rfl, ⟨nd, rfl⟩⟩; refine ⟨_, rfl, ?_⟩; (try (rw [drewN_self w1001]; generalize hq_ : World.drewN w1001 _ = w1001; have n0_ := Aside0.mk (blk_at hq_ BK157.out); have n1_ := Aside0.mk (below_at hq_ HB.out); clear hq_ BK157 HB; have BK157 := n0_; have HB := n1_; clear n0_ n1_; (try (obtain ⟨⟨hcyBK157_0, hcyBK157_1⟩, hfyBK157_0, hfyBK157_1⟩ := cells2 BK157.out))))) | ((with_reducible refine gate_callee (f := 14) rfl ?_); refine goesL_ (some 20) rfl rfl Tryd.func14 (by kernel_rfl) rfl #[.string t158] rfl wT ?_; (with_reducible refine (impl_ReadAddr.calls k t158 t161 t162 _ ?side1 A3.out).mono ?_); (case side1 => repeat (first | exact (Door.c_below HD.out HB.out) | (with_reducible refine Door.c_alloc ?_ _) | (with_reducible refine Door.c_drewN ?_ _) | (with_reducible refine Door.c_drew ?_))); rintro e w1002 ⟨rfl, hb⟩; refine ⟨_, rfl, ?_⟩; have n0_ := Aside0.mk (blk_below (Bh BK157) hb); have n1_ := Aside0.mk (below_step wB hb); clear BK157; clear HB; have BK157 := n0_; have HB := n1_; clear n0_ n1_; (try clear hb); (try clear hb2); (try clear hk); (try clear hi)) | ((with_reducible refine gate_callee (f := 37) rfl ?_); refine goesL_ (some 25) rfl rfl Tryd.func37 (by kernel_rfl) rfl #[.string t159, .int .i64 2] rfl wT ?_; (with_reducible refine (impl_decimal.calls k t159 2 t163 true _ A4.out).mono ?_); rintro e w1003 ⟨rfl, hb⟩; refine ⟨_, rfl, ?_⟩; have n0_ := Aside0.mk (blk_below (Bh BK157) hb); have n1_ := Aside0.mk (below_step wB hb); clear BK157; clear HB; have BK157 := n0_; have HB := n1_; clear n0_ n1_; (try clear hb); (try clear hb2); (try clear hk); (try clear hi)) | ((with_reducible refine gate_dst (N := 11) rfl ?_); refine box_event ?hg (N := 11) ?hd (cs := #[.int .i64 0, .int .i64 0]) (t := 36) ?hr ?_; (case hd => rfl); (case hg => rfl); (case hr => first | (go_simp; done) | (go_simp; rfl)); intro gb165 hg w1004 hbox hb; have n0_ := Aside0.mk (blk_below (Bh BK157) hb); have n1_ := Aside0.mk (below_step wB hb); have n2_ := Aside0.mk (hbox); have n3_ := Aside0.mk ((by rw [hg]; exact (below_size wB) : w.heap.size ≤ gb165)); have n4_ := Aside0.mk ((by rw [hg]; exact (below_size wB) : w.heap.size ≤ gb165)); have n5_ := Aside0.mk ((by rw [hg]; exact Nat.ne_of_lt (blk_lt (Bh BK157)) : gb157 ≠ gb165)); have n6_ := Aside0.mk ((by rw [hg]; exact Nat.ne_of_gt (blk_lt (Bh BK157)) : gb165 ≠ gb157)); clear BK157; clear HB; have BK157 := n0_; have HB := n1_; have BK165 := n2_; have GW165 := n3_; have GE165 := n4_; have NB157_165 := n5_; have NB165_157 := n6_; clear n0_ n1_ n2_ n3_ n4_ n5_ n6_; clear hb hbox hg; have hnb1005 := NB165_157.out; have hnc1005 := NB157_165.out; obtain ⟨⟨hcz1006_0, hcz1006_1⟩, hfz1006_0, hfz1006_1⟩ := cells2 BK165.out) | ((with_reducible refine gate_store (t := 36) (p := 11) rfl ?_); refine store_event (t := 36) (p := 11) (v := ?_) (w1 := ((w1004.setCell ⟨gb165, 0, none⟩ (.int .i64 t161)).setCell ⟨gb165, 1, none⟩ (.int .i64 t163))) ?hg ?ho ?hn ?hr ?_; (case ho => rfl); (case hg => rfl); (case hn => rfl); (case hr => first | (go_simp; done) | (go_simp; rfl)); intro w1007 hw; have n0_ : Aside0 (w1007.heap[gb157]? = some (.cells #[.int .i64 0, .int .i64 0] 36 (0, 0))) := ⟨(by rw [hw]; exact (by (with_reducible repeat (first | refine blk_drewN ?_ _ | refine blk_drew ?_ | refine blk_alloc ?_ _)); refine blk_far ?_ NB157_165.out _; (with_reducible repeat (first | refine blk_drewN ?_ _ | refine blk_drew ?_ | refine blk_alloc ?_ _)); refine blk_far ?_ NB157_165.out _; (with_reducible repeat (first | refine blk_drewN ?_ _ | refine blk_drew ?_ | refine blk_alloc ?_ _)); exact BK157.out))⟩; have n1_ : Aside0 (w1007.heap[gb165]? = some (.cells #[.int .i64 t161, .int .i64 t163] 36 (0, 0))) := ⟨(by rw [hw]; exact (by (with_reducible repeat (first | refine blk_drewN ?_ _ | refine blk_drew ?_ | refine blk_alloc ?_ _)); refine blk_put (cs := #[.int .i64 t161, .int .i64 0]) ?_ 1 _ rfl; (with_reducible repeat (first | refine blk_drewN ?_ _ | refine blk_drew ?_ | refine blk_alloc ?_ _)); refine blk_put (cs := #[.int .i64 0, .int .i64 0]) ?_ 0 _ rfl; (with_reducible repeat (first | refine blk_drewN ?_ _ | refine blk_drew ?_ | refine blk_alloc ?_ _)); exact BK165.out))⟩; have n2_ : Aside0 (Below w.heap.size w w1007) := ⟨(by rw [hw]; exact wB)⟩; clear hw; clear BK157; clear BK165; clear HB; have BK157 := n0_; have BK165 := n1_; have HB := n2_; clear n0_ n1_ n2_; obtain ⟨⟨hcz1008_0, hcz1008_1⟩, hfz1008_0, hfz1008_1⟩ := cells2 BK165.out) | (go_at_call 47; (with_reducible refine (impl_okPrefix.calls t161 t163 false _ A7.out).mono ?_); rintro e w1009 ⟨rfl, hb⟩; have n0_ := Aside0.mk (blk_below (Bh BK157) hb); have n1_ := Aside0.mk (blk_below (Bh BK165) hb); have n2_ := Aside0.mk (below_step wB hb); clear BK157; clear BK165; clear HB; have BK157 := n0_; have BK165 := n1_; have HB := n2_; clear n0_ n1_ n2_; (try clear hb); (try clear hb2); (try clear hk); (try clear hi); obtain ⟨⟨hcz1010_0, hcz1010_1⟩, hfz1010_0, hfz1010_1⟩ := cells2 BK157.out) | ((with_reducible refine gate_store (t := 36) (p := 2) rfl ?_); refine store_event (t := 36) (p := 2) (v := ?_) (w1 := ((w1009.setCell ⟨gb157, 0, none⟩ (.int .i64 0)).setCell ⟨gb157, 1, none⟩ (.int .i64 0))) ?hg ?ho ?hn ?hr ?_; (case ho => rfl); (case hg => rfl); (case hn => rfl); (case hr => first | (go_simp; done) | (go_simp; rfl)); intro w1011 hw; have n0_ : Aside0 (w1011.heap[gb157]? = some (.cells #[.int .i64 0, .int .i64 0] 36 (0, 0))) := ⟨(by rw [hw]; exact (by (with_reducible repeat (first | refine blk_drewN ?_ _ | refine blk_drew ?_ | refine blk_alloc ?_ _)); refine blk_put (cs := #[.int .i64 0, .int .i64 0]) ?_ 1 _ rfl; (with_reducible repeat (first | refine blk_drewN ?_ _ | refine blk_drew ?_ | refine blk_alloc ?_ _)); refine blk_put (cs := #[.int .i64 0, .int .i64 0]) ?_ 0 _ rfl; (with_reducible repeat (first | refine blk_drewN ?_ _ | refine blk_drew ?_ | refine blk_alloc ?_ _)); exact BK157.out))⟩; have n1_ : Aside0 (w1011.heap[gb165]? = some (.cells #[.int .i64 t161, .int .i64 t163] 36 (0, 0))) := ⟨(by rw [hw]; exact (by (with_reducible repeat (first | refine blk_drewN ?_ _ | refine blk_drew ?_ | refine blk_alloc ?_ _)); refine blk_far ?_ NB165_157.out _; (with_reducible repeat (first | refine blk_drewN ?_ _ | refine blk_drew ?_ | refine blk_alloc ?_ _)); refine blk_far ?_ NB165_157.out _; (with_reducible repeat (first | refine blk_drewN ?_ _ | refine blk_drew ?_ | refine blk_alloc ?_ _)); exact BK165.out))⟩; have n2_ : Aside0 (Below w.heap.size w w1011) := ⟨(by rw [hw]; exact wB)⟩; clear hw; clear BK157; clear BK165; clear HB; have BK157 := n0_; have BK165 := n1_; have HB := n2_; clear n0_ n1_ n2_))
 refine bodyPost_ret (results_ct rfl _ _ gb157 36 #[.int .i64 0, .int .i64 0] (0, 0) _ rfl (Bh BK157) Tryd.underlying36 rfl (by kernel_rfl)) rfl ?_
 exact ⟨by first | rfl | (simp [errW_none, errW_some] <;> rfl) | (simp [*, errW_none, errW_some] <;> rfl), wB⟩
 }
 }
 {
 replace c6 := Bool.eq_false_iff.mpr c6
 subst c6
 have H1 : (some (0, 0, 6)) = some (r1, r2, r3) := by rw [if_neg (show ¬ (false = true) by decide)] at H; exact H
 clear H
 have H := H1
 clear H1
 simp only [Option.some.injEq, Prod.mk.injEq] at H
 obtain ⟨rfl, rfl, rfl⟩ := H
 go_enter Tryd.func19, Tryd.ntmps19
 go_wp2_with (first | ((with_reducible refine gate_dst (N := 2) rfl ?_); refine box_event ?hg (N := 2) ?hd (cs := #[.int .i64 0, .int .i64 0]) (t := 36) ?hr ?_; (case hd => rfl); (case hg => rfl); (case hr => first | (go_simp; done) | (go_simp; rfl)); intro gb157 hg w1001 hbox hb; have n0_ := Aside0.mk (below_step wB hb); have n1_ := Aside0.mk (hbox); have n2_ := Aside0.mk ((by rw [hg]; exact (below_size wB) : w.heap.size ≤ gb157)); have n3_ := Aside0.mk ((by rw [hg]; exact (below_size wB) : w.heap.size ≤ gb157)); clear HB; have HB := n0_; have BK157 := n1_; have GW157 := n2_; have GE157 := n3_; clear n0_ n1_ n2_ n3_; clear hb hbox hg) | ((with_reducible refine gate_callee (f := 46) rfl ?_); refine goesL_ (some 14) rfl rfl Tryd.func46 (by kernel_rfl) rfl #[.string a0, .string (⟨#[47]⟩ : ByteArray)] rfl wT ?_; (with_reducible refine (strings_Cut.calls a0 (⟨#[47]⟩ : ByteArray) t158 t159 t160 _ ?side1 A2.out).mono ?_); (case side1 => repeat (first | exact (Door.c_below HD.out HB.out) | (with_reducible refine Door.c_alloc ?_ _) | (with_reducible refine Door.c_drewN ?_ _) | (with_reducible refine Door.c_drew ?_))); rintro e w' ⟨rfl, ⟨nd, rfl⟩⟩; refine ⟨_, rfl, ?_⟩; (try (rw [drewN_self w1001]; generalize hq_ : World.drewN w1001 _ = w1001; have n0_ := Aside0.mk (blk_at hq_ BK157.out); have n1_ := Aside0.mk (below_at hq_ HB.out); clear hq_ BK157 HB; have BK157 := n0_; have HB := n1_; clear n0_ n1_; (try (obtain ⟨⟨hcyBK157_0, hcyBK157_1⟩, hfyBK157_0, hfyBK157_1⟩ := cells2 BK157.out))))) | ((with_reducible refine gate_callee (f := 14) rfl ?_); refine goesL_ (some 20) rfl rfl Tryd.func14 (by kernel_rfl) rfl #[.string t158] rfl wT ?_; (with_reducible refine (impl_ReadAddr.calls k t158 t161 t162 _ ?side1 A3.out).mono ?_); (case side1 => repeat (first | exact (Door.c_below HD.out HB.out) | (with_reducible refine Door.c_alloc ?_ _) | (with_reducible refine Door.c_drewN ?_ _) | (with_reducible refine Door.c_drew ?_))); rintro e w1002 ⟨rfl, hb⟩; refine ⟨_, rfl, ?_⟩; have n0_ := Aside0.mk (blk_below (Bh BK157) hb); have n1_ := Aside0.mk (below_step wB hb); clear BK157; clear HB; have BK157 := n0_; have HB := n1_; clear n0_ n1_; (try clear hb); (try clear hb2); (try clear hk); (try clear hi)) | ((with_reducible refine gate_callee (f := 37) rfl ?_); refine goesL_ (some 25) rfl rfl Tryd.func37 (by kernel_rfl) rfl #[.string t159, .int .i64 2] rfl wT ?_; (with_reducible refine (impl_decimal.calls k t159 2 t163 false _ A4.out).mono ?_); rintro e w1003 ⟨rfl, hb⟩; refine ⟨_, rfl, ?_⟩; have n0_ := Aside0.mk (blk_below (Bh BK157) hb); have n1_ := Aside0.mk (below_step wB hb); clear BK157; clear HB; have BK157 := n0_; have HB := n1_; clear n0_ n1_; (try clear hb); (try clear hb2); (try clear hk); (try clear hi)) | ((with_reducible refine gate_dst (N := 11) rfl ?_); refine box_event ?hg (N := 11) ?hd (cs := #[.int .i64 0, .int .i64 0]) (t := 36) ?hr ?_; (case hd => rfl); (case hg => rfl); (case hr => first | (go_simp; done) | (go_simp; rfl)); intro gb165 hg w1004 hbox hb; have n0_ := Aside0.mk (blk_below (Bh BK157) hb); have n1_ := Aside0.mk (below_step wB hb); have n2_ := Aside0.mk (hbox); have n3_ := Aside0.mk ((by rw [hg]; exact (below_size wB) : w.heap.size ≤ gb165)); have n4_ := Aside0.mk ((by rw [hg]; exact (below_size wB) : w.heap.size ≤ gb165)); have n5_ := Aside0.mk ((by rw [hg]; exact Nat.ne_of_lt (blk_lt (Bh BK157)) : gb157 ≠ gb165)); have n6_ := Aside0.mk ((by rw [hg]; exact Nat.ne_of_gt (blk_lt (Bh BK157)) : gb165 ≠ gb157)); clear BK157; clear HB; have BK157 := n0_; have HB := n1_; have BK165 := n2_; have GW165 := n3_; have GE165 := n4_; have NB157_165 := n5_; have NB165_157 := n6_; clear n0_ n1_ n2_ n3_ n4_ n5_ n6_; clear hb hbox hg; have hnb1005 := NB165_157.out; have hnc1005 := NB157_165.out; obtain ⟨⟨hcz1006_0, hcz1006_1⟩, hfz1006_0, hfz1006_1⟩ := cells2 BK165.out) | ((with_reducible refine gate_store (t := 36) (p := 11) rfl ?_); refine store_event (t := 36) (p := 11) (v := ?_) (w1 := ((w1004.setCell ⟨gb165, 0, none⟩ (.int .i64 t161)).setCell ⟨gb165, 1, none⟩ (.int .i64 t163))) ?hg ?ho ?hn ?hr ?_; (case ho => rfl); (case hg => rfl); (case hn => rfl); (case hr => first | (go_simp; done) | (go_simp; rfl)); intro w1007 hw; have n0_ : Aside0 (w1007.heap[gb157]? = some (.cells #[.int .i64 0, .int .i64 0] 36 (0, 0))) := ⟨(by rw [hw]; exact (by (with_reducible repeat (first | refine blk_drewN ?_ _ | refine blk_drew ?_ | refine blk_alloc ?_ _)); refine blk_far ?_ NB157_165.out _; (with_reducible repeat (first | refine blk_drewN ?_ _ | refine blk_drew ?_ | refine blk_alloc ?_ _)); refine blk_far ?_ NB157_165.out _; (with_reducible repeat (first | refine blk_drewN ?_ _ | refine blk_drew ?_ | refine blk_alloc ?_ _)); exact BK157.out))⟩; have n1_ : Aside0 (w1007.heap[gb165]? = some (.cells #[.int .i64 t161, .int .i64 t163] 36 (0, 0))) := ⟨(by rw [hw]; exact (by (with_reducible repeat (first | refine blk_drewN ?_ _ | refine blk_drew ?_ | refine blk_alloc ?_ _)); refine blk_put (cs := #[.int .i64 t161, .int .i64 0]) ?_ 1 _ rfl; (with_reducible repeat (first | refine blk_drewN ?_ _ | refine blk_drew ?_ | refine blk_alloc ?_ _)); refine blk_put (cs := #[.int .i64 0, .int .i64 0]) ?_ 0 _ rfl; (with_reducible repeat (first | refine blk_drewN ?_ _ | refine blk_drew ?_ | refine blk_alloc ?_ _)); exact BK165.out))⟩; have n2_ : Aside0 (Below w.heap.size w w1007) := ⟨(by rw [hw]; exact wB)⟩; clear hw; clear BK157; clear BK165; clear HB; have BK157 := n0_; have BK165 := n1_; have HB := n2_; clear n0_ n1_ n2_; obtain ⟨⟨hcz1008_0, hcz1008_1⟩, hfz1008_0, hfz1008_1⟩ := cells2 BK157.out) | ((with_reducible refine gate_store (t := 36) (p := 2) rfl ?_); refine store_event (t := 36) (p := 2) (v := ?_) (w1 := ((w1007.setCell ⟨gb157, 0, none⟩ (.int .i64 0)).setCell ⟨gb157, 1, none⟩ (.int .i64 0))) ?hg ?ho ?hn ?hr ?_; (case ho => rfl); (case hg => rfl); (case hn => rfl); (case hr => first | (go_simp; done) | (go_simp; rfl)); intro w1009 hw; have n0_ : Aside0 (w1009.heap[gb157]? = some (.cells #[.int .i64 0, .int .i64 0] 36 (0, 0))) := ⟨(by rw [hw]; exact (by (with_reducible repeat (first | refine blk_drewN ?_ _ | refine blk_drew ?_ | refine blk_alloc ?_ _)); refine blk_put (cs := #[.int .i64 0, .int .i64 0]) ?_ 1 _ rfl; (with_reducible repeat (first | refine blk_drewN ?_ _ | refine blk_drew ?_ | refine blk_alloc ?_ _)); refine blk_put (cs := #[.int .i64 0, .int .i64 0]) ?_ 0 _ rfl; (with_reducible repeat (first | refine blk_drewN ?_ _ | refine blk_drew ?_ | refine blk_alloc ?_ _)); exact BK157.out))⟩; have n1_ : Aside0 (w1009.heap[gb165]? = some (.cells #[.int .i64 t161, .int .i64 t163] 36 (0, 0))) := ⟨(by rw [hw]; exact (by (with_reducible repeat (first | refine blk_drewN ?_ _ | refine blk_drew ?_ | refine blk_alloc ?_ _)); refine blk_far ?_ NB165_157.out _; (with_reducible repeat (first | refine blk_drewN ?_ _ | refine blk_drew ?_ | refine blk_alloc ?_ _)); refine blk_far ?_ NB165_157.out _; (with_reducible repeat (first | refine blk_drewN ?_ _ | refine blk_drew ?_ | refine blk_alloc ?_ _)); exact BK165.out))⟩; have n2_ : Aside0 (Below w.heap.size w w1009) := ⟨(by rw [hw]; exact wB)⟩; clear hw; clear BK157; clear BK165; clear HB; have BK157 := n0_; have BK165 := n1_; have HB := n2_; clear n0_ n1_ n2_))
 refine bodyPost_ret (results_ct rfl _ _ gb157 36 #[.int .i64 0, .int .i64 0] (0, 0) _ rfl (Bh BK157) Tryd.underlying36 rfl (by kernel_rfl)) rfl ?_
 exact ⟨by first | rfl | (simp [errW_none, errW_some] <;> rfl) | (simp [*, errW_none, errW_some] <;> rfl), wB⟩
 }
 }
 {
 rw [if_neg c5] at H
 have c5b0 : (t162 == 0) = false := beq_eq_false_iff_ne.mpr c5
 have c5b1 : (t162 != 0) = true := bne_iff_ne.mpr c5
 simp only [Option.some.injEq, Prod.mk.injEq] at H
 obtain ⟨rfl, rfl, rfl⟩ := H
 go_enter Tryd.func19, Tryd.ntmps19
 go_wp2_with (first | ((with_reducible refine gate_dst (N := 2) rfl ?_); refine box_event ?hg (N := 2) ?hd (cs := #[.int .i64 0, .int .i64 0]) (t := 36) ?hr ?_; (case hd => rfl); (case hg => rfl); (case hr => first | (go_simp; done) | (go_simp; rfl)); intro gb157 hg w1001 hbox hb; have n0_ := Aside0.mk (below_step wB hb); have n1_ := Aside0.mk (hbox); have n2_ := Aside0.mk ((by rw [hg]; exact (below_size wB) : w.heap.size ≤ gb157)); have n3_ := Aside0.mk ((by rw [hg]; exact (below_size wB) : w.heap.size ≤ gb157)); clear HB; have HB := n0_; have BK157 := n1_; have GW157 := n2_; have GE157 := n3_; clear n0_ n1_ n2_ n3_; clear hb hbox hg) | ((with_reducible refine gate_callee (f := 46) rfl ?_); refine goesL_ (some 14) rfl rfl Tryd.func46 (by kernel_rfl) rfl #[.string a0, .string (⟨#[47]⟩ : ByteArray)] rfl wT ?_; (with_reducible refine (strings_Cut.calls a0 (⟨#[47]⟩ : ByteArray) t158 t159 t160 _ ?side1 A2.out).mono ?_); (case side1 => repeat (first | exact (Door.c_below HD.out HB.out) | (with_reducible refine Door.c_alloc ?_ _) | (with_reducible refine Door.c_drewN ?_ _) | (with_reducible refine Door.c_drew ?_))); rintro e w' ⟨rfl, ⟨nd, rfl⟩⟩; refine ⟨_, rfl, ?_⟩; (try (rw [drewN_self w1001]; generalize hq_ : World.drewN w1001 _ = w1001; have n0_ := Aside0.mk (blk_at hq_ BK157.out); have n1_ := Aside0.mk (below_at hq_ HB.out); clear hq_ BK157 HB; have BK157 := n0_; have HB := n1_; clear n0_ n1_; (try (obtain ⟨⟨hcyBK157_0, hcyBK157_1⟩, hfyBK157_0, hfyBK157_1⟩ := cells2 BK157.out))))) | ((with_reducible refine gate_callee (f := 14) rfl ?_); refine goesL_ (some 20) rfl rfl Tryd.func14 (by kernel_rfl) rfl #[.string t158] rfl wT ?_; (with_reducible refine (impl_ReadAddr.calls k t158 t161 t162 _ ?side1 A3.out).mono ?_); (case side1 => repeat (first | exact (Door.c_below HD.out HB.out) | (with_reducible refine Door.c_alloc ?_ _) | (with_reducible refine Door.c_drewN ?_ _) | (with_reducible refine Door.c_drew ?_))); rintro e w1002 ⟨rfl, hb⟩; refine ⟨_, rfl, ?_⟩; have n0_ := Aside0.mk (blk_below (Bh BK157) hb); have n1_ := Aside0.mk (below_step wB hb); clear BK157; clear HB; have BK157 := n0_; have HB := n1_; clear n0_ n1_; (try clear hb); (try clear hb2); (try clear hk); (try clear hi)) | ((with_reducible refine gate_callee (f := 37) rfl ?_); refine goesL_ (some 25) rfl rfl Tryd.func37 (by kernel_rfl) rfl #[.string t159, .int .i64 2] rfl wT ?_; (with_reducible refine (impl_decimal.calls k t159 2 t163 t164 _ A4.out).mono ?_); rintro e w1003 ⟨rfl, hb⟩; refine ⟨_, rfl, ?_⟩; have n0_ := Aside0.mk (blk_below (Bh BK157) hb); have n1_ := Aside0.mk (below_step wB hb); clear BK157; clear HB; have BK157 := n0_; have HB := n1_; clear n0_ n1_; (try clear hb); (try clear hb2); (try clear hk); (try clear hi)) | ((with_reducible refine gate_dst (N := 11) rfl ?_); refine box_event ?hg (N := 11) ?hd (cs := #[.int .i64 0, .int .i64 0]) (t := 36) ?hr ?_; (case hd => rfl); (case hg => rfl); (case hr => first | (go_simp; done) | (go_simp; rfl)); intro gb165 hg w1004 hbox hb; have n0_ := Aside0.mk (blk_below (Bh BK157) hb); have n1_ := Aside0.mk (below_step wB hb); have n2_ := Aside0.mk (hbox); have n3_ := Aside0.mk ((by rw [hg]; exact (below_size wB) : w.heap.size ≤ gb165)); have n4_ := Aside0.mk ((by rw [hg]; exact (below_size wB) : w.heap.size ≤ gb165)); have n5_ := Aside0.mk ((by rw [hg]; exact Nat.ne_of_lt (blk_lt (Bh BK157)) : gb157 ≠ gb165)); have n6_ := Aside0.mk ((by rw [hg]; exact Nat.ne_of_gt (blk_lt (Bh BK157)) : gb165 ≠ gb157)); clear BK157; clear HB; have BK157 := n0_; have HB := n1_; have BK165 := n2_; have GW165 := n3_; have GE165 := n4_; have NB157_165 := n5_; have NB165_157 := n6_; clear n0_ n1_ n2_ n3_ n4_ n5_ n6_; clear hb hbox hg; have hnb1005 := NB165_157.out; have hnc1005 := NB157_165.out; obtain ⟨⟨hcz1006_0, hcz1006_1⟩, hfz1006_0, hfz1006_1⟩ := cells2 BK165.out) | ((with_reducible refine gate_store (t := 36) (p := 11) rfl ?_); refine store_event (t := 36) (p := 11) (v := ?_) (w1 := ((w1004.setCell ⟨gb165, 0, none⟩ (.int .i64 t161)).setCell ⟨gb165, 1, none⟩ (.int .i64 t163))) ?hg ?ho ?hn ?hr ?_; (case ho => rfl); (case hg => rfl); (case hn => rfl); (case hr => first | (go_simp; done) | (go_simp; rfl)); intro w1007 hw; have n0_ : Aside0 (w1007.heap[gb157]? = some (.cells #[.int .i64 0, .int .i64 0] 36 (0, 0))) := ⟨(by rw [hw]; exact (by (with_reducible repeat (first | refine blk_drewN ?_ _ | refine blk_drew ?_ | refine blk_alloc ?_ _)); refine blk_far ?_ NB157_165.out _; (with_reducible repeat (first | refine blk_drewN ?_ _ | refine blk_drew ?_ | refine blk_alloc ?_ _)); refine blk_far ?_ NB157_165.out _; (with_reducible repeat (first | refine blk_drewN ?_ _ | refine blk_drew ?_ | refine blk_alloc ?_ _)); exact BK157.out))⟩; have n1_ : Aside0 (w1007.heap[gb165]? = some (.cells #[.int .i64 t161, .int .i64 t163] 36 (0, 0))) := ⟨(by rw [hw]; exact (by (with_reducible repeat (first | refine blk_drewN ?_ _ | refine blk_drew ?_ | refine blk_alloc ?_ _)); refine blk_put (cs := #[.int .i64 t161, .int .i64 0]) ?_ 1 _ rfl; (with_reducible repeat (first | refine blk_drewN ?_ _ | refine blk_drew ?_ | refine blk_alloc ?_ _)); refine blk_put (cs := #[.int .i64 0, .int .i64 0]) ?_ 0 _ rfl; (with_reducible repeat (first | refine blk_drewN ?_ _ | refine blk_drew ?_ | refine blk_alloc ?_ _)); exact BK165.out))⟩; have n2_ : Aside0 (Below w.heap.size w w1007) := ⟨(by rw [hw]; exact wB)⟩; clear hw; clear BK157; clear BK165; clear HB; have BK157 := n0_; have BK165 := n1_; have HB := n2_; clear n0_ n1_ n2_; obtain ⟨⟨hcz1008_0, hcz1008_1⟩, hfz1008_0, hfz1008_1⟩ := cells2 BK157.out) | ((with_reducible refine gate_store (t := 36) (p := 2) rfl ?_); refine store_event (t := 36) (p := 2) (v := ?_) (w1 := ((w1007.setCell ⟨gb157, 0, none⟩ (.int .i64 0)).setCell ⟨gb157, 1, none⟩ (.int .i64 0))) ?hg ?ho ?hn ?hr ?_; (case ho => rfl); (case hg => rfl); (case hn => rfl); (case hr => first | (go_simp; done) | (go_simp; rfl)); intro w1009 hw; have n0_ : Aside0 (w1009.heap[gb157]? = some (.cells #[.int .i64 0, .int .i64 0] 36 (0, 0))) := ⟨(by rw [hw]; exact (by (with_reducible repeat (first | refine blk_drewN ?_ _ | refine blk_drew ?_ | refine blk_alloc ?_ _)); refine blk_put (cs := #[.int .i64 0, .int .i64 0]) ?_ 1 _ rfl; (with_reducible repeat (first | refine blk_drewN ?_ _ | refine blk_drew ?_ | refine blk_alloc ?_ _)); refine blk_put (cs := #[.int .i64 0, .int .i64 0]) ?_ 0 _ rfl; (with_reducible repeat (first | refine blk_drewN ?_ _ | refine blk_drew ?_ | refine blk_alloc ?_ _)); exact BK157.out))⟩; have n1_ : Aside0 (w1009.heap[gb165]? = some (.cells #[.int .i64 t161, .int .i64 t163] 36 (0, 0))) := ⟨(by rw [hw]; exact (by (with_reducible repeat (first | refine blk_drewN ?_ _ | refine blk_drew ?_ | refine blk_alloc ?_ _)); refine blk_far ?_ NB165_157.out _; (with_reducible repeat (first | refine blk_drewN ?_ _ | refine blk_drew ?_ | refine blk_alloc ?_ _)); refine blk_far ?_ NB165_157.out _; (with_reducible repeat (first | refine blk_drewN ?_ _ | refine blk_drew ?_ | refine blk_alloc ?_ _)); exact BK165.out))⟩; have n2_ : Aside0 (Below w.heap.size w w1009) := ⟨(by rw [hw]; exact wB)⟩; clear hw; clear BK157; clear BK165; clear HB; have BK157 := n0_; have BK165 := n1_; have HB := n2_; clear n0_ n1_ n2_))
 refine bodyPost_ret (results_ct rfl _ _ gb157 36 #[.int .i64 0, .int .i64 0] (0, 0) _ rfl (Bh BK157) Tryd.underlying36 rfl (by kernel_rfl)) rfl ?_
 exact ⟨by first | rfl | (simp [errW_none, errW_some] <;> rfl) | (simp [*, errW_none, errW_some] <;> rfl), wB⟩
 }

/-! ### laws_eqPrefix: function 27 -/
def laws_eqPrefix.f (a0_0 : Int) (a0_1 : Int) (a1_0 : Int) (a1_1 : Int) : Option (Bool) := if a0_0 = a1_0 then (if a0_1 = a1_1 then (some true) else (some false)) else (some false)
set_option maxHeartbeats 60000000 in
set_option maxRecDepth 100000 in
theorem laws_eqPrefix.calls (a0_0 : Int) (a0_1 : Int) (a1_0 : Int) (a1_1 : Int) (r : Bool) (w : World) (h : laws_eqPrefix.f a0_0 a0_1 a1_0 a1_1 = some r) :
    Calls Tryd.prog 27 #[.agg #[.int .i64 a0_0, .int .i64 a0_1], .agg #[.int .i64 a1_0, .int .i64 a1_1]] w fun e w' => e = .returned (.bool r) ∧ Below w.heap.size w w' := by
  have hu36 := Tryd.underlying36
  have HB := Aside0.mk (Below.refl w.heap.size w)
  have H : (if a0_0 = a1_0 then (if a0_1 = a1_1 then (some true) else (some false)) else (some false)) = some r := h
  clear h
  by_cases c3 : a0_0 = a1_0
  · rw [if_pos c3] at H
    have c3b0 : (a0_0 == a1_0) = true := beq_iff_eq.mpr c3
    have c3b1 : (a0_0 != a1_0) = false := bne_eq_false_iff_eq.mpr c3
    clear c3
    by_cases c4 : a0_1 = a1_1
    · rw [if_pos c4] at H
      have c4b0 : (a0_1 == a1_1) = true := beq_iff_eq.mpr c4
      have c4b1 : (a0_1 != a1_1) = false := bne_eq_false_iff_eq.mpr c4
      clear c4
      obtain rfl := Option.some.inj H
      go_enter Tryd.func27, Tryd.ntmps27
      go_wp2_with (first | ((with_reducible refine gate_dst (N := 2) rfl ?_); refine box_event ?hg (N := 2) ?hd (cs := #[.int .i64 a0_0, .int .i64 a0_1]) (t := 36) ?hr ?_; (case hd => rfl); (case hg => rfl); (case hr => first | (go_simp; done) | (go_simp; rfl)); intro gb167 hg w1001 hbox hb; have n0_ := Aside0.mk (below_step wB hb); have n1_ := Aside0.mk (hbox); have n2_ := Aside0.mk ((by rw [hg]; exact (below_size wB) : w.heap.size ≤ gb167)); have n3_ := Aside0.mk ((by rw [hg]; exact (below_size wB) : w.heap.size ≤ gb167)); clear HB; have HB := n0_; have BK167 := n1_; have GW167 := n2_; have GE167 := n3_; clear n0_ n1_ n2_ n3_; clear hb hbox hg) | ((with_reducible refine gate_dst (N := 3) rfl ?_); refine box_event ?hg (N := 3) ?hd (cs := #[.int .i64 a1_0, .int .i64 a1_1]) (t := 36) ?hr ?_; (case hd => rfl); (case hg => rfl); (case hr => first | (go_simp; done) | (go_simp; rfl)); intro gb168 hg w1002 hbox hb; have n0_ := Aside0.mk (blk_below (Bh BK167) hb); have n1_ := Aside0.mk (below_step wB hb); have n2_ := Aside0.mk (hbox); have n3_ := Aside0.mk ((by rw [hg]; exact (below_size wB) : w.heap.size ≤ gb168)); have n4_ := Aside0.mk ((by rw [hg]; exact (below_size wB) : w.heap.size ≤ gb168)); have n5_ := Aside0.mk ((by rw [hg]; exact Nat.ne_of_lt (blk_lt (Bh BK167)) : gb167 ≠ gb168)); have n6_ := Aside0.mk ((by rw [hg]; exact Nat.ne_of_gt (blk_lt (Bh BK167)) : gb168 ≠ gb167)); clear BK167; clear HB; have BK167 := n0_; have HB := n1_; have BK168 := n2_; have GW168 := n3_; have GE168 := n4_; have NB167_168 := n5_; have NB168_167 := n6_; clear n0_ n1_ n2_ n3_ n4_ n5_ n6_; clear hb hbox hg; have hnb1003 := NB167_168.out; have hnc1003 := NB168_167.out; obtain ⟨⟨hcz1004_0, hcz1004_1⟩, hfz1004_0, hfz1004_1⟩ := cells2 BK167.out; obtain ⟨⟨hcz1005_0, hcz1005_1⟩, hfz1005_0, hfz1005_1⟩ := cells2 BK168.out))
      go_ret
      exact ⟨by first | rfl | (simp [errW_none, errW_some] <;> rfl) | (simp [*, errW_none, errW_some] <;> rfl), wB⟩
    · rw [if_neg c4] at H
      have c4b0 : (a0_1 == a1_1) = false := beq_eq_false_iff_ne.mpr c4
      have c4b1 : (a0_1 != a1_1) = true := bne_iff_ne.mpr c4
      obtain rfl := Option.some.inj H
      go_enter Tryd.func27, Tryd.ntmps27
      go_wp2_with (first | ((with_reducible refine gate_dst (N := 2) rfl ?_); refine box_event ?hg (N := 2) ?hd (cs := #[.int .i64 a0_0, .int .i64 a0_1]) (t := 36) ?hr ?_; (case hd => rfl); (case hg => rfl); (case hr => first | (go_simp; done) | (go_simp; rfl)); intro gb167 hg w1001 hbox hb; have n0_ := Aside0.mk (below_step wB hb); have n1_ := Aside0.mk (hbox); have n2_ := Aside0.mk ((by rw [hg]; exact (below_size wB) : w.heap.size ≤ gb167)); have n3_ := Aside0.mk ((by rw [hg]; exact (below_size wB) : w.heap.size ≤ gb167)); clear HB; have HB := n0_; have BK167 := n1_; have GW167 := n2_; have GE167 := n3_; clear n0_ n1_ n2_ n3_; clear hb hbox hg) | ((with_reducible refine gate_dst (N := 3) rfl ?_); refine box_event ?hg (N := 3) ?hd (cs := #[.int .i64 a1_0, .int .i64 a1_1]) (t := 36) ?hr ?_; (case hd => rfl); (case hg => rfl); (case hr => first | (go_simp; done) | (go_simp; rfl)); intro gb168 hg w1002 hbox hb; have n0_ := Aside0.mk (blk_below (Bh BK167) hb); have n1_ := Aside0.mk (below_step wB hb); have n2_ := Aside0.mk (hbox); have n3_ := Aside0.mk ((by rw [hg]; exact (below_size wB) : w.heap.size ≤ gb168)); have n4_ := Aside0.mk ((by rw [hg]; exact (below_size wB) : w.heap.size ≤ gb168)); have n5_ := Aside0.mk ((by rw [hg]; exact Nat.ne_of_lt (blk_lt (Bh BK167)) : gb167 ≠ gb168)); have n6_ := Aside0.mk ((by rw [hg]; exact Nat.ne_of_gt (blk_lt (Bh BK167)) : gb168 ≠ gb167)); clear BK167; clear HB; have BK167 := n0_; have HB := n1_; have BK168 := n2_; have GW168 := n3_; have GE168 := n4_; have NB167_168 := n5_; have NB168_167 := n6_; clear n0_ n1_ n2_ n3_ n4_ n5_ n6_; clear hb hbox hg; have hnb1003 := NB167_168.out; have hnc1003 := NB168_167.out; obtain ⟨⟨hcz1004_0, hcz1004_1⟩, hfz1004_0, hfz1004_1⟩ := cells2 BK167.out; obtain ⟨⟨hcz1005_0, hcz1005_1⟩, hfz1005_0, hfz1005_1⟩ := cells2 BK168.out))
      go_ret
      exact ⟨by first | rfl | (simp [errW_none, errW_some] <;> rfl) | (simp [*, errW_none, errW_some] <;> rfl), wB⟩
  · rw [if_neg c3] at H
    have c3b0 : (a0_0 == a1_0) = false := beq_eq_false_iff_ne.mpr c3
    have c3b1 : (a0_0 != a1_0) = true := bne_iff_ne.mpr c3
    obtain rfl := Option.some.inj H
    go_enter Tryd.func27, Tryd.ntmps27
    go_wp2_with (first | ((with_reducible refine gate_dst (N := 2) rfl ?_); refine box_event ?hg (N := 2) ?hd (cs := #[.int .i64 a0_0, .int .i64 a0_1]) (t := 36) ?hr ?_; (case hd => rfl); (case hg => rfl); (case hr => first | (go_simp; done) | (go_simp; rfl)); intro gb167 hg w1001 hbox hb; have n0_ := Aside0.mk (below_step wB hb); have n1_ := Aside0.mk (hbox); have n2_ := Aside0.mk ((by rw [hg]; exact (below_size wB) : w.heap.size ≤ gb167)); have n3_ := Aside0.mk ((by rw [hg]; exact (below_size wB) : w.heap.size ≤ gb167)); clear HB; have HB := n0_; have BK167 := n1_; have GW167 := n2_; have GE167 := n3_; clear n0_ n1_ n2_ n3_; clear hb hbox hg) | ((with_reducible refine gate_dst (N := 3) rfl ?_); refine box_event ?hg (N := 3) ?hd (cs := #[.int .i64 a1_0, .int .i64 a1_1]) (t := 36) ?hr ?_; (case hd => rfl); (case hg => rfl); (case hr => first | (go_simp; done) | (go_simp; rfl)); intro gb168 hg w1002 hbox hb; have n0_ := Aside0.mk (blk_below (Bh BK167) hb); have n1_ := Aside0.mk (below_step wB hb); have n2_ := Aside0.mk (hbox); have n3_ := Aside0.mk ((by rw [hg]; exact (below_size wB) : w.heap.size ≤ gb168)); have n4_ := Aside0.mk ((by rw [hg]; exact (below_size wB) : w.heap.size ≤ gb168)); have n5_ := Aside0.mk ((by rw [hg]; exact Nat.ne_of_lt (blk_lt (Bh BK167)) : gb167 ≠ gb168)); have n6_ := Aside0.mk ((by rw [hg]; exact Nat.ne_of_gt (blk_lt (Bh BK167)) : gb168 ≠ gb167)); clear BK167; clear HB; have BK167 := n0_; have HB := n1_; have BK168 := n2_; have GW168 := n3_; have GE168 := n4_; have NB167_168 := n5_; have NB168_167 := n6_; clear n0_ n1_ n2_ n3_ n4_ n5_ n6_; clear hb hbox hg; have hnb1003 := NB167_168.out; have hnc1003 := NB168_167.out; obtain ⟨⟨hcz1004_0, hcz1004_1⟩, hfz1004_0, hfz1004_1⟩ := cells2 BK167.out; obtain ⟨⟨hcz1005_0, hcz1005_1⟩, hfz1005_0, hfz1005_1⟩ := cells2 BK168.out))
    go_ret
    exact ⟨by first | rfl | (simp [errW_none, errW_some] <;> rfl) | (simp [*, errW_none, errW_some] <;> rfl), wB⟩

/-! ### laws_FnExactReadPrefix: function 9 -/
def laws_FnExactReadPrefix.f (k : Nat) (a0 : ByteArray) : Option (Bool) := if (a0.size : Int) > 1048576 then (some true) else ((spec_ReadPrefix.f k a0).bind fun bt169 => ((impl_ReadPrefix.f k a0).bind fun bt173 => ((laws_eqPrefix.f bt173.1 bt173.2.1 bt169.1 bt169.2.1).bind fun t177 => (if t177 = true then (if bt173.2.2 = bt169.2.2 then (some true) else (some false)) else (some false)))))
theorem laws_FnExactReadPrefix.mono : ∀ a0 k, LeO (laws_FnExactReadPrefix.f k a0) (laws_FnExactReadPrefix.f (k + 1) a0) := by
 intro a0 k
 unfold laws_FnExactReadPrefix.f
 repeat' first
     | (with_reducible exact impl_ReadPrefix.mono _ _)
     | (with_reducible exact spec_ReadPrefix.mono _ _)
     | (with_reducible exact LeO.refl _)
     | (with_reducible exact LeO.none _)
     | (with_reducible refine LeO.ite ?_ ?_)
     | (with_reducible refine LeO.bind ?_ (fun _ => ?_))
     | exact impl_ReadPrefix.mono _ _
     | exact spec_ReadPrefix.mono _ _
     | exact LeO.none _
     | refine LeO.ite ?_ ?_
     | refine LeO.bind ?_ (fun _ => ?_)
set_option maxHeartbeats 60000000 in
set_option maxRecDepth 100000 in
theorem laws_FnExactReadPrefix.calls (k : Nat) (a0 : ByteArray) (r : Bool) (w : World) (hd : Door w) (h : laws_FnExactReadPrefix.f k a0 = some r) :
 Calls Tryd.prog 9 #[.string a0] w fun e w' => e = .returned (.bool r) ∧ Below w.heap.size w w' := by
 have hu36 := Tryd.underlying36
 have HD := Aside0.mk hd
 clear hd
 have HB := Aside0.mk (Below.refl w.heap.size w)
 have H : (if (a0.size : Int) > 1048576 then (some true) else ((spec_ReadPrefix.f k a0).bind fun bt169 => ((impl_ReadPrefix.f k a0).bind fun bt173 => ((laws_eqPrefix.f bt173.1 bt173.2.1 bt169.1 bt169.2.1).bind fun t177 => (if t177 = true then (if bt173.2.2 = bt169.2.2 then (some true) else (some false)) else (some false)))))) = some r := h
 clear h
 by_cases c2 : (a0.size : Int) > 1048576
 rw [if_pos c2] at H
 have c2b0 : decide (1048576 < (a0.size : Int)) = true := decide_eq_true c2
 have c2b1 : decide (1048576 < a0.size) = true := decide_eq_true (by omega)
 clear c2
 obtain rfl := Option.some.inj H
 rotate_left
 rw [if_neg c2] at H
 have c2b0 : decide (1048576 < (a0.size : Int)) = false := decide_eq_false c2
 have c2b1 : decide (1048576 < a0.size) = false := decide_eq_false (by omega)
 clear c2
 replace H := Option.bind_eq_some_iff.mp H
 obtain ⟨⟨t169, t170, t171⟩, A30, H⟩ := H
 replace H : ((impl_ReadPrefix.f k a0).bind fun bt173 => ((laws_eqPrefix.f bt173.1 bt173.2.1 t169 t170).bind fun t177 => (if t177 = true then (if bt173.2.2 = t171 then (some true) else (some false)) else (some false)))) = some r := H
 have A3 := Aside0.mk A30
 clear A30
 replace H := Option.bind_eq_some_iff.mp H
 obtain ⟨⟨t173, t174, t175⟩, A40, H⟩ := H
 replace H : ((laws_eqPrefix.f t173 t174 t169 t170).bind fun t177 => (if t177 = true then (if t175 = t171 then (some true) else (some false)) else (some false))) = some r := H
 have A4 := Aside0.mk A40
 clear A40
 replace H := Option.bind_eq_some_iff.mp H
 obtain ⟨t177, A50, H⟩ := H
 replace H : (if t177 = true then (if t175 = t171 then (some true) else (some false)) else (some false)) = some r := H
 have A5 := Aside0.mk A50
 clear A50
 by_cases c6 : t177 = true
 subst c6
 have H1 : (if t175 = t171 then (some true) else (some false)) = some r := by rw [if_pos rfl] at H; exact H
 clear H
 have H := H1
 clear H1
 by_cases c7 : t175 = t171
 rw [if_pos c7] at H
 have c7b0 : (t175 == t171) = true := beq_iff_eq.mpr c7
 have c7b1 : (t175 != t171) = false := bne_eq_false_iff_eq.mpr c7
 clear c7
 obtain rfl := Option.some.inj H
 rotate_left
 rw [if_neg c7] at H
 have c7b0 : (t175 == t171) = false := beq_eq_false_iff_ne.mpr c7
 have c7b1 : (t175 != t171) = true := bne_iff_ne.mpr c7
 obtain rfl := Option.some.inj H
 rotate_left
 replace c6 := Bool.eq_false_iff.mpr c6
 subst c6
 have H1 : (some false) = some r := by rw [if_neg (show ¬ (false = true) by decide)] at H; exact H
 clear H
 have H := H1
 clear H1
 obtain rfl := Option.some.inj H
 rotate_left
 all_goals (
 go_enter Tryd.func9, Tryd.ntmps9
 )
 {
 go_wp2
 go_ret
 exact ⟨by first | rfl | (simp [errW_none, errW_some] <;> rfl) | (simp [*, errW_none, errW_some] <;> rfl), wB⟩
 }
 all_goals (
 go_wp2_with (first | ((with_reducible refine gate_callee (f := 18) rfl ?_); refine goesL_ (some 12) rfl rfl Tryd.func18 (by kernel_rfl) rfl #[.string a0] rfl wT ?_; (with_reducible refine (spec_ReadPrefix.calls k a0 t169 t170 t171 _ A3.out).mono ?_); rintro e w1001 ⟨rfl, hb⟩; refine ⟨_, rfl, ?_⟩; have n0_ := Aside0.mk (below_step wB hb); clear HB; have HB := n0_; clear n0_; (try clear hb); (try clear hb2); (try clear hk); (try clear hi)) | ((with_reducible refine gate_dst (N := 3) rfl ?_); refine box_event ?hg (N := 3) ?hd (cs := #[.int .i64 0, .int .i64 0]) (t := 36) ?hr ?_; (case hd => rfl); (case hg => rfl); (case hr => first | (go_simp; done) | (go_simp; rfl)); intro gb172 hg w1002 hbox hb; have n0_ := Aside0.mk (below_step wB hb); have n1_ := Aside0.mk (hbox); have n2_ := Aside0.mk ((by rw [hg]; exact (below_size wB) : w.heap.size ≤ gb172)); have n3_ := Aside0.mk ((by rw [hg]; exact (below_size wB) : w.heap.size ≤ gb172)); clear HB; have HB := n0_; have BK172 := n1_; have GW172 := n2_; have GE172 := n3_; clear n0_ n1_ n2_ n3_; clear hb hbox hg; obtain ⟨⟨hcz1003_0, hcz1003_1⟩, hfz1003_0, hfz1003_1⟩ := cells2 BK172.out) | ((with_reducible refine gate_store (t := 36) (p := 3) rfl ?_); refine store_event (t := 36) (p := 3) (v := ?_) (w1 := ((w1002.setCell ⟨gb172, 0, none⟩ (.int .i64 t169)).setCell ⟨gb172, 1, none⟩ (.int .i64 t170))) ?hg ?ho ?hn ?hr ?_; (case ho => rfl); (case hg => rfl); (case hn => rfl); (case hr => first | (go_simp; done) | (go_simp; rfl)); intro w1004 hw; have n0_ : Aside0 (w1004.heap[gb172]? = some (.cells #[.int .i64 t169, .int .i64 t170] 36 (0, 0))) := ⟨(by rw [hw]; exact (by (with_reducible repeat (first | refine blk_drewN ?_ _ | refine blk_drew ?_ | refine blk_alloc ?_ _)); refine blk_put (cs := #[.int .i64 t169, .int .i64 0]) ?_ 1 _ rfl; (with_reducible repeat (first | refine blk_drewN ?_ _ | refine blk_drew ?_ | refine blk_alloc ?_ _)); refine blk_put (cs := #[.int .i64 0, .int .i64 0]) ?_ 0 _ rfl; (with_reducible repeat (first | refine blk_drewN ?_ _ | refine blk_drew ?_ | refine blk_alloc ?_ _)); exact BK172.out))⟩; have n1_ : Aside0 (Below w.heap.size w w1004) := ⟨(by rw [hw]; exact wB)⟩; clear hw; clear BK172; clear HB; have BK172 := n0_; have HB := n1_; clear n0_ n1_) | ((with_reducible refine gate_callee (f := 19) rfl ?_); refine goesL_ (some 17) rfl rfl Tryd.func19 (by kernel_rfl) rfl #[.string a0] rfl wT ?_; (with_reducible refine (impl_ReadPrefix.calls k a0 t173 t174 t175 _ ?side1 A4.out).mono ?_); (case side1 => repeat (first | exact (Door.c_below HD.out HB.out) | (with_reducible refine Door.c_alloc ?_ _) | (with_reducible refine Door.c_drewN ?_ _) | (with_reducible refine Door.c_drew ?_))); rintro e w1005 ⟨rfl, hb⟩; refine ⟨_, rfl, ?_⟩; have n0_ := Aside0.mk (blk_below (Bh BK172) hb); have n1_ := Aside0.mk (below_step wB hb); clear BK172; clear HB; have BK172 := n0_; have HB := n1_; clear n0_ n1_; (try clear hb); (try clear hb2); (try clear hk); (try clear hi)) | ((with_reducible refine gate_dst (N := 5) rfl ?_); refine box_event ?hg (N := 5) ?hd (cs := #[.int .i64 0, .int .i64 0]) (t := 36) ?hr ?_; (case hd => rfl); (case hg => rfl); (case hr => first | (go_simp; done) | (go_simp; rfl)); intro gb176 hg w1006 hbox hb; have n0_ := Aside0.mk (blk_below (Bh BK172) hb); have n1_ := Aside0.mk (below_step wB hb); have n2_ := Aside0.mk (hbox); have n3_ := Aside0.mk ((by rw [hg]; exact (below_size wB) : w.heap.size ≤ gb176)); have n4_ := Aside0.mk ((by rw [hg]; exact (below_size wB) : w.heap.size ≤ gb176)); have n5_ := Aside0.mk ((by rw [hg]; exact Nat.ne_of_lt (blk_lt (Bh BK172)) : gb172 ≠ gb176)); have n6_ := Aside0.mk ((by rw [hg]; exact Nat.ne_of_gt (blk_lt (Bh BK172)) : gb176 ≠ gb172)); clear BK172; clear HB; have BK172 := n0_; have HB := n1_; have BK176 := n2_; have GW176 := n3_; have GE176 := n4_; have NB172_176 := n5_; have NB176_172 := n6_; clear n0_ n1_ n2_ n3_ n4_ n5_ n6_; clear hb hbox hg; have hnb1007 := NB176_172.out; have hnc1007 := NB172_176.out; obtain ⟨⟨hcz1008_0, hcz1008_1⟩, hfz1008_0, hfz1008_1⟩ := cells2 BK176.out) | ((with_reducible refine gate_store (t := 36) (p := 5) rfl ?_); refine store_event (t := 36) (p := 5) (v := ?_) (w1 := ((w1006.setCell ⟨gb176, 0, none⟩ (.int .i64 t173)).setCell ⟨gb176, 1, none⟩ (.int .i64 t174))) ?hg ?ho ?hn ?hr ?_; (case ho => rfl); (case hg => rfl); (case hn => rfl); (case hr => first | (go_simp; done) | (go_simp; rfl)); intro w1009 hw; have n0_ : Aside0 (w1009.heap[gb172]? = some (.cells #[.int .i64 t169, .int .i64 t170] 36 (0, 0))) := ⟨(by rw [hw]; exact (by (with_reducible repeat (first | refine blk_drewN ?_ _ | refine blk_drew ?_ | refine blk_alloc ?_ _)); refine blk_far ?_ NB172_176.out _; (with_reducible repeat (first | refine blk_drewN ?_ _ | refine blk_drew ?_ | refine blk_alloc ?_ _)); refine blk_far ?_ NB172_176.out _; (with_reducible repeat (first | refine blk_drewN ?_ _ | refine blk_drew ?_ | refine blk_alloc ?_ _)); exact BK172.out))⟩; have n1_ : Aside0 (w1009.heap[gb176]? = some (.cells #[.int .i64 t173, .int .i64 t174] 36 (0, 0))) := ⟨(by rw [hw]; exact (by (with_reducible repeat (first | refine blk_drewN ?_ _ | refine blk_drew ?_ | refine blk_alloc ?_ _)); refine blk_put (cs := #[.int .i64 t173, .int .i64 0]) ?_ 1 _ rfl; (with_reducible repeat (first | refine blk_drewN ?_ _ | refine blk_drew ?_ | refine blk_alloc ?_ _)); refine blk_put (cs := #[.int .i64 0, .int .i64 0]) ?_ 0 _ rfl; (with_reducible repeat (first | refine blk_drewN ?_ _ | refine blk_drew ?_ | refine blk_alloc ?_ _)); exact BK176.out))⟩; have n2_ : Aside0 (Below w.heap.size w w1009) := ⟨(by rw [hw]; exact wB)⟩; clear hw; clear BK172; clear BK176; clear HB; have BK172 := n0_; have BK176 := n1_; have HB := n2_; clear n0_ n1_ n2_; obtain ⟨⟨hcz1010_0, hcz1010_1⟩, hfz1010_0, hfz1010_1⟩ := cells2 BK176.out; obtain ⟨⟨hcz1011_0, hcz1011_1⟩, hfz1011_0, hfz1011_1⟩ := cells2 BK172.out) | ((with_reducible refine gate_callee (f := 27) rfl ?_); refine goesL_ (some 22) rfl rfl Tryd.func27 (by kernel_rfl) rfl #[.agg #[.int .i64 t173, .int .i64 t174], .agg #[.int .i64 t169, .int .i64 t170]] rfl wT ?_; (with_reducible refine (laws_eqPrefix.calls t173 t174 t169 t170 _ _ A5.out).mono ?_); rintro e w1012 ⟨rfl, hb⟩; refine ⟨_, rfl, ?_⟩; have n0_ := Aside0.mk (blk_below (Bh BK172) hb); have n1_ := Aside0.mk (blk_below (Bh BK176) hb); have n2_ := Aside0.mk (below_step wB hb); clear BK172; clear BK176; clear HB; have BK172 := n0_; have BK176 := n1_; have HB := n2_; clear n0_ n1_ n2_; (try clear hb); (try clear hb2); (try clear hk); (try clear hi)))
 go_ret
 exact ⟨by first | rfl | (simp [errW_none, errW_some] <;> rfl) | (simp [*, errW_none, errW_some] <;> rfl), wB⟩
 )

/-- THE ONE PURE STATEMENT of laws_FnExactReadPrefix: yours. -/
def laws_FnExactReadPrefix.Pure : Prop := ∀ (a0 : ByteArray), a0.size ≤ 140737488351232 → ∃ k, laws_FnExactReadPrefix.f k a0 = some true
theorem laws_FnExactReadPrefix.walk (P : laws_FnExactReadPrefix.Pure) (a0 : ByteArray) (w : World) (w0 : a0.size ≤ 140737488351232) (hdoor : Door w) :
 Calls Tryd.prog 9 #[.string a0] w fun e w' => e = .returned (.bool true) ∧ Below w.heap.size w w' := by
 obtain ⟨k, h⟩ := P a0 w0
 refine (laws_FnExactReadPrefix.calls k a0 true w hdoor h).mono ?_
 rintro e w' ⟨rfl, hd⟩
 exact ⟨rfl, hd⟩

end Go.Proofs.YtnnplkhjmdbmbaaDoor.PFnExactReadPrefix
