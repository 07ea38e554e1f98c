-- Written for this claim by a program of this session (wip/mkprint.py: the print, turned at a few places). Not trusted: Lean checks it.
import Derived.Test.YtnnplkhjmdbmbaaDoorPFnAddrTextx0
import Derived.Test.YtnnplkhjmdbmbaaDoorPFnAddrTextx1
namespace Go.Proofs.YtnnplkhjmdbmbaaDoor.PFnAddrText
open Go.RowKit Go.Proofs.YtnnplkhjmdbmbaaDoorW.PrintWords Go.Proofs.YtnnplkhjmdbmbaaDoorW.PrintLast Go.Proofs.YtnnplkhjmdbmbaaDoorW.PrintMore
attribute [local go_sem] max2_int min2_int max_two min_two max_three min_three max_four min_four   -- for this text's walks alone
set_option linter.unusedVariables false
set_option linter.unusedSimpArgs false

/-! ### impl_decimal: function 37 -/
mutual
def impl_decimal.j0 : Nat → ByteArray → Bool → Option (Int × Bool)
  | 0, _, _ => none
  | k + 1, x0, x27 => if x27 = true then (some (0, false)) else (if x0.size ≤ 9223372036854775807 then ((some (bytesOf x0 : List Int)).bind fun y111 => (impl_decimal.l0 k 0 y111 (y111.length : Int) 0)) else (none))
def impl_decimal.l0 : Nat → Int → List Int → Int → Int → Option (Int × Bool)
  | 0, _, _, _, _ => none
  | k + 1, x6, x29, x30, x31 => if x31 < x30 then (if 0 ≤ x31 then (if x31 < (x29.length : Int) then (if (rd x29 x31) < 48 then (some (0, false)) else (if (rd x29 x31) > 57 then (some (0, false)) else (impl_decimal.l0 k (wrap64 ((wrap64 (x6 * 10)) + (((rd x29 x31) - 48) % 256))) x29 x30 (wrap64 (x31 + 1))))) else (none)) else (none)) else (some (x6, true))
end
def impl_decimal.f (k : Nat) (a0 : ByteArray) (a1 : Int) : Option (Int × Bool) := if (a0.size : Int) = 0 then (impl_decimal.j0 k a0 true) else (if (a0.size : Int) > a1 then (impl_decimal.j0 k a0 true) else (if (a0.size : Int) > 1 then (if 0 < (a0.size : Int) then (impl_decimal.j0 k a0 ((bt a0 0) == 48)) else (none)) else (impl_decimal.j0 k a0 false)))
theorem impl_decimal.mono_l : ∀ k, (∀ y0 y1, LeO (impl_decimal.j0 k y0 y1) (impl_decimal.j0 (k + 1) y0 y1)) ∧ (∀ y0 y1 y2 y3, LeO (impl_decimal.l0 k y0 y1 y2 y3) (impl_decimal.l0 (k + 1) y0 y1 y2 y3))
  | 0 => ⟨fun _ _ r h => by simp [impl_decimal.j0] at h, fun _ _ _ _ r h => by simp [impl_decimal.l0] at h⟩
  | k + 1 => by
    obtain ⟨ih0, ih1⟩ := impl_decimal.mono_l k
    refine ⟨?_, ?_⟩
    · intro y0 y1
      unfold impl_decimal.j0
      repeat' first
      | (with_reducible exact ih0 _ _)
      | (with_reducible exact ih1 _ _ _ _)
      | (with_reducible exact LeO.refl _)
      | (with_reducible exact LeO.none _)
      | (with_reducible refine LeO.ite ?_ ?_)
      | (with_reducible refine LeO.bind ?_ (fun _ => ?_))
      | exact ih0 _ _
      | exact ih1 _ _ _ _
      | exact LeO.none _
      | refine LeO.ite ?_ ?_
      | refine LeO.bind ?_ (fun _ => ?_)
    · intro y0 y1 y2 y3
      unfold impl_decimal.l0
      repeat' first
      | (with_reducible exact ih0 _ _)
      | (with_reducible exact ih1 _ _ _ _)
      | (with_reducible exact LeO.refl _)
      | (with_reducible exact LeO.none _)
      | (with_reducible refine LeO.ite ?_ ?_)
      | (with_reducible refine LeO.bind ?_ (fun _ => ?_))
      | exact ih0 _ _
      | exact ih1 _ _ _ _
      | exact LeO.none _
      | refine LeO.ite ?_ ?_
      | refine LeO.bind ?_ (fun _ => ?_)
theorem impl_decimal.mono : ∀ a0 a1 k, LeO (impl_decimal.f k a0 a1) (impl_decimal.f (k + 1) a0 a1) := by
  intro a0 a1 k
  obtain ⟨ih0, ih1⟩ := impl_decimal.mono_l k
  unfold impl_decimal.f
  repeat' first
      | (with_reducible exact ih0 _ _)
      | (with_reducible exact ih1 _ _ _ _)
      | (with_reducible exact LeO.refl _)
      | (with_reducible exact LeO.none _)
      | (with_reducible refine LeO.ite ?_ ?_)
      | (with_reducible refine LeO.bind ?_ (fun _ => ?_))
      | exact ih0 _ _
      | exact ih1 _ _ _ _
      | exact LeO.none _
      | refine LeO.ite ?_ ?_
      | refine LeO.bind ?_ (fun _ => ?_)
set_option maxHeartbeats 60000000 in
set_option maxRecDepth 100000 in
theorem impl_decimal.calls (k : Nat) (a0 : ByteArray) (a1 : Int) (r1 : Int) (r2 : Bool) (w : World) (h : impl_decimal.f k a0 a1 = some (r1, r2)) :
    Calls Tryd.prog 37 #[.string a0, .int .i64 a1] w fun e w' => e = .returned (.tuple #[.int .i64 r1, .bool r2]) ∧ Below w.heap.size w w' := by
  have HB := Aside0.mk (Below.refl w.heap.size w)
  have H : (if (a0.size : Int) = 0 then (impl_decimal.j0 k a0 true) else (if (a0.size : Int) > a1 then (impl_decimal.j0 k a0 true) else (if (a0.size : Int) > 1 then (if 0 < (a0.size : Int) then (impl_decimal.j0 k a0 ((bt a0 0) == 48)) else (none)) else (impl_decimal.j0 k a0 false)))) = some (r1, r2) := h
  clear h
  have HC3 := Aside0.mk H
  clear H
  go_enter Tryd.func37, Tryd.ntmps37
  go_upto_region 1 with (fail)
  go_cut [27] (fun v27 wc => ∃ (kq : Nat) (x27_2 : Bool), v27 = .bool x27_2 ∧ Aside0 (impl_decimal.j0 kq a0 x27_2 = some (r1, r2)) ∧ Aside0 (kq ≤ k) ∧ Aside0 (Below w.heap.size w wc))
  case first =>
    have H := HC3.out
    clear HC3
    by_cases c1001 : (a0.size : Int) = 0
    · rw [if_pos c1001] at H
      have c1001b0 : ((a0.size : Int) == 0) = true := beq_iff_eq.mpr c1001
      have c1001b1 : ((a0.size : Int) != 0) = false := bne_eq_false_iff_eq.mpr c1001
      clear c1001
      (first | rw [c1001b0] | (simp only [i64_w, i32_w]; rw [c1001b0]) | skip)
      have H' := Aside0.mk H
      clear H
      go_wp2
      all_goals (try (rename_i h_; exfalso; cases h_; done))
      all_goals (try (rename_i h_ h2_; exfalso; cases h_; done))
      go_meet
      case rel => exact ⟨_, (true), (by first | rfl | (simp; done) | (simp [*]; done)), H', ⟨by first | omega | exact Nat.le_refl _⟩, ⟨wB⟩⟩
    · rw [if_neg c1001] at H
      have c1001b0 : ((a0.size : Int) == 0) = false := beq_eq_false_iff_ne.mpr c1001
      have c1001b1 : ((a0.size : Int) != 0) = true := bne_iff_ne.mpr c1001
      (first | rw [c1001b0] | (simp only [i64_w, i32_w]; rw [c1001b0]) | skip)
      by_cases c1002 : (a0.size : Int) > a1
      · rw [if_pos c1002] at H
        have c1002b0 : decide (a1 < (a0.size : Int)) = true := decide_eq_true c1002
        clear c1002
        have H' := Aside0.mk H
        clear H
        go_wp2
        all_goals (try (rename_i h_; exfalso; cases h_; done))
        all_goals (try (rename_i h_ h2_; exfalso; cases h_; done))
        go_meet
        case rel => exact ⟨_, (true), (by first | rfl | (simp; done) | (simp [*]; done)), H', ⟨by first | omega | exact Nat.le_refl _⟩, ⟨wB⟩⟩
      · rw [if_neg c1002] at H
        have c1002b0 : decide (a1 < (a0.size : Int)) = false := decide_eq_false c1002
        clear c1002
        by_cases c1003 : (a0.size : Int) > 1
        · rw [if_pos c1003] at H
          have c1003b0 : decide (1 < (a0.size : Int)) = true := decide_eq_true c1003
          have c1003b1 : decide (1 < a0.size) = true := decide_eq_true (by omega)
          clear c1003
          by_cases c1004 : 0 < (a0.size : Int)
          · rw [if_pos c1004] at H
            have c1004b0 : decide (0 < (a0.size : Int)) = true := decide_eq_true c1004
            have c1004b1 : decide (0 < a0.size) = true := decide_eq_true (by omega)
            clear c1004
            have H' := Aside0.mk H
            clear H
            have p1005 : 0 ≤ (0 : Int) := (by omega)
            have q1005 : 0 < a0.size := (by have : (0 : Int) < (a0.size : Int) := of_decide_eq_true (by first | (with_reducible assumption) | assumption); omega)
            have hx1005 : ∀ h : 0 < a0.size, ((a0[0]'h).toNat : Int) = bt a0 0 := bt_at a0 0
            clear p1005
            have qi1005 : (0 < (a0.size : Int)) = True := eq_true (of_decide_eq_true (by first | (with_reducible assumption) | assumption))
            replace q1005 := eq_true q1005
            go_wp2
            all_goals (try (rename_i h_; exfalso; cases h_; done))
            all_goals (try (rename_i h_ h2_; exfalso; cases h_; done))
            go_meet
            case rel => exact ⟨_, (((bt a0 0) == 48)), (by first | rfl | (simp; done) | (simp [*]; done)), H', ⟨by first | omega | exact Nat.le_refl _⟩, ⟨wB⟩⟩
          · rw [if_neg c1004] at H
            exact absurd H (by simp)
        · rw [if_neg c1003] at H
          have c1003b0 : decide (1 < (a0.size : Int)) = false := decide_eq_false c1003
          have c1003b1 : decide (1 < a0.size) = false := decide_eq_false (by omega)
          clear c1003
          have H' := Aside0.mk H
          clear H
          go_wp2
          all_goals (try (rename_i h_; exfalso; cases h_; done))
          all_goals (try (rename_i h_ h2_; exfalso; cases h_; done))
          go_meet
          case rel => exact ⟨_, (false), (by first | rfl | (simp; done) | (simp [*]; done)), H', ⟨by first | omega | exact Nat.le_refl _⟩, ⟨wB⟩⟩
  case rest =>
    clear HC3
    try clear c1001
    try clear c1001b0
    try clear c1001b1
    try clear c1002
    try clear c1002b0
    try clear c1003
    try clear c1003b0
    try clear c1003b1
    try clear c1004
    try clear c1004b0
    try clear c1004b1
    try clear p1005
    try clear q1005
    try clear hx1005
    try clear qi1005
    try clear p1005
    try clear q1005
    obtain ⟨kq, x27_2, rfl, HA, HJ2, HB⟩ := hcut
    cases kq with
    | zero => exact absurd HA.out (by simp [impl_decimal.j0])
    | succ kj2 =>
      have H := HA.out
      clear HA
      simp only [impl_decimal.j0] at H
      by_cases c1006 : x27_2 = true
      · subst c1006
        have H1 : (some (0, false)) = some (r1, r2) := by rw [if_pos rfl] at H; exact H
        clear H
        have H := H1
        clear H1
        simp only [Option.some.injEq, Prod.mk.injEq] at H
        obtain ⟨rfl, rfl⟩ := H
        go_wp2
        all_goals (try (rename_i h_; exfalso; cases h_; done))
        all_goals (try (rename_i h_ h2_; exfalso; cases h_; done))
        go_ret2
        exact ⟨by first | rfl | (simp [errW_none, errW_some] <;> rfl) | (simp [*, errW_none, errW_some] <;> rfl), wB⟩
      · replace c1006 := Bool.eq_false_iff.mpr c1006
        subst c1006
        have H1 : (if a0.size ≤ 9223372036854775807 then ((some (bytesOf a0 : List Int)).bind fun y111 => (impl_decimal.l0 kj2 0 y111 (y111.length : Int) 0)) else (none)) = some (r1, r2) := by rw [if_neg (show ¬ (false = true) by decide)] at H; exact H
        clear H
        have H := H1
        clear H1
        by_cases c1007 : a0.size ≤ 9223372036854775807
        · rw [if_pos c1007] at H
          have LMc1007 := Aside0.mk c1007
          clear c1007
          obtain ⟨y111, hy111⟩ : ∃ y_ : List Int, y_ = (bytesOf a0) := ⟨_, rfl⟩
          replace H : (impl_decimal.l0 kj2 0 y111 (y111.length : Int) 0) = some (r1, r2) := by first | (rw [hy111]; with_reducible exact H) | (have H2_ := (Option.bind_some _ _).symm.trans H; rw [hy111]; with_reducible exact H2_) | (have H2_ := (Option.bind_some _ _).symm.trans H; with_reducible exact H2_) | with_reducible exact H | (rw [hy111]; exact H) | exact H
          have Ny111 := Aside0.mk hy111
          clear hy111
          have H' := Aside0.mk H
          clear H
          go_wp2_with (first | ((with_reducible refine gate_dst (N := 29) rfl ?_); (try (refine gate_guard (by rfl) ?_; dsimp only)); refine C_conv 5 rfl 9 22 _ rfl a0 rfl Tryd.underlying9 Tryd.underlying22 Tryd.underlying5 y111 Ny111.out LMc1007.out ?_; intro adc115 ccv116 w2001 hC hl hb; have n0_ := Aside0.mk (below_step wB hb); clear HB; have HB := n0_; clear n0_; have HRv114 := Aside0.mk hC; have HCv114 := Aside0.mk hl; clear hb hC hl))
          all_goals (try (rename_i h_; exfalso; cases h_; done))
          all_goals (try (rename_i h_ h2_; exfalso; cases h_; done))
          go_loopg [6, 31] kj2 (fun kq v6 v31 w' => ∃ (x6_2 : Int) (x31_2 : Int), v6 = .int .i64 x6_2 ∧ v31 = .int .i64 x31_2 ∧ Aside0 (impl_decimal.l0 kq x6_2 y111 (y111.length : Int) x31_2 = some (r1, r2)) ∧ Aside0 (kq ≤ kj2) ∧ Aside0 (Kd.C (Kd.int .u8) w' (some adc115) y111.length y111) ∧ Aside0 (Below w.heap.size w w'))
          case atStart => exact ⟨(0), (0), (by first | rfl | (simp; done) | (simp [*]; done)), (by first | rfl | (simp; done) | (simp [*]; done)), H', ⟨Nat.le_refl _⟩, ⟨by repeat (first | (with_reducible exact HRv114.out) | (with_reducible refine Kd.C_alloc ?_ _) | (with_reducible refine Kd.C_drewN ?_ _) | (with_reducible refine Kd.C_drew ?_) | exact HRv114.out)⟩, ⟨wB⟩⟩
          case round =>
            clear H'
            try clear c1001
            try clear c1001b0
            try clear c1001b1
            try clear c1002
            try clear c1002b0
            try clear c1003
            try clear c1003b0
            try clear c1003b1
            try clear c1004
            try clear c1004b0
            try clear c1004b1
            try clear p1005
            try clear q1005
            try clear hx1005
            try clear qi1005
            try clear c1006
            try clear c1007
            try clear p1005
            try clear q1005
            obtain ⟨x6_2, x31_2, rfl, rfl, HA, HK2, HRv114, HB⟩ := hrel
            cases gk with
            | zero => exact absurd HA.out (by simp [impl_decimal.l0])
            | succ k2 =>
              have H := HA.out
              clear HA
              simp only [impl_decimal.l0] at H
              by_cases c2002 : x31_2 < (y111.length : Int)
              · rw [if_pos c2002] at H
                have c2002b0 : decide (x31_2 < (y111.length : Int)) = true := decide_eq_true c2002
                clear c2002
                by_cases c2003 : 0 ≤ x31_2
                · rw [if_pos c2003] at H
                  have c2003b0 : decide (0 ≤ x31_2) = true := decide_eq_true c2003
                  clear c2003
                  by_cases c2004 : x31_2 < (y111.length : Int)
                  · rw [if_pos c2004] at H
                    have c2004b0 : decide (x31_2 < (y111.length : Int)) = true := decide_eq_true c2004
                    clear c2004
                    by_cases c2005 : (rd y111 x31_2) < 48
                    · rw [if_pos c2005] at H
                      have c2005b0 : decide ((rd y111 x31_2) < 48) = true := decide_eq_true c2005
                      clear c2005
                      simp only [Option.some.injEq, Prod.mk.injEq] at H
                      obtain ⟨rfl, rfl⟩ := H
                      have p117 : 0 ≤ (x31_2 : Int) := of_decide_eq_true (by first | (with_reducible assumption) | assumption)
                      have q117 : x31_2 < (y111.length : Int) := of_decide_eq_true (by first | (with_reducible assumption) | assumption)
                      obtain ⟨ad117, e117, hx117_0⟩ := Kd.at_int (by repeat (first | (with_reducible exact HRv114.out) | (with_reducible refine Kd.C_alloc ?_ _) | (with_reducible refine Kd.C_drewN ?_ _) | (with_reducible refine Kd.C_drew ?_) | exact HRv114.out)) x31_2 p117 q117
                      obtain rfl : adc115 = ad117 := (by injection e117)
                      replace p117 := eq_true p117
                      replace q117 := eq_true q117
                      go_wp2
                      all_goals (try (rename_i h_; exfalso; cases h_; done))
                      all_goals (try (rename_i h_ h2_; exfalso; cases h_; done))
                      go_ret2
                      exact ⟨by first | rfl | (simp [errW_none, errW_some] <;> rfl) | (simp [*, errW_none, errW_some] <;> rfl), wB⟩
                    · rw [if_neg c2005] at H
                      have c2005b0 : decide ((rd y111 x31_2) < 48) = false := decide_eq_false c2005
                      clear c2005
                      by_cases c2006 : (rd y111 x31_2) > 57
                      · rw [if_pos c2006] at H
                        have c2006b0 : decide (57 < (rd y111 x31_2)) = true := decide_eq_true c2006
                        clear c2006
                        simp only [Option.some.injEq, Prod.mk.injEq] at H
                        obtain ⟨rfl, rfl⟩ := H
                        have p117 : 0 ≤ (x31_2 : Int) := of_decide_eq_true (by first | (with_reducible assumption) | assumption)
                        have q117 : x31_2 < (y111.length : Int) := of_decide_eq_true (by first | (with_reducible assumption) | assumption)
                        obtain ⟨ad117, e117, hx117_0⟩ := Kd.at_int (by repeat (first | (with_reducible exact HRv114.out) | (with_reducible refine Kd.C_alloc ?_ _) | (with_reducible refine Kd.C_drewN ?_ _) | (with_reducible refine Kd.C_drew ?_) | exact HRv114.out)) x31_2 p117 q117
                        obtain rfl : adc115 = ad117 := (by injection e117)
                        replace p117 := eq_true p117
                        replace q117 := eq_true q117
                        go_wp2
                        all_goals (try (rename_i h_; exfalso; cases h_; done))
                        all_goals (try (rename_i h_ h2_; exfalso; cases h_; done))
                        go_ret2
                        exact ⟨by first | rfl | (simp [errW_none, errW_some] <;> rfl) | (simp [*, errW_none, errW_some] <;> rfl), wB⟩
                      · rw [if_neg c2006] at H
                        have c2006b0 : decide (57 < (rd y111 x31_2)) = false := decide_eq_false c2006
                        clear c2006
                        have H' := Aside0.mk H
                        clear H
                        have p117 : 0 ≤ (x31_2 : Int) := of_decide_eq_true (by first | (with_reducible assumption) | assumption)
                        have q117 : x31_2 < (y111.length : Int) := of_decide_eq_true (by first | (with_reducible assumption) | assumption)
                        obtain ⟨ad117, e117, hx117_0⟩ := Kd.at_int (by repeat (first | (with_reducible exact HRv114.out) | (with_reducible refine Kd.C_alloc ?_ _) | (with_reducible refine Kd.C_drewN ?_ _) | (with_reducible refine Kd.C_drew ?_) | exact HRv114.out)) x31_2 p117 q117
                        obtain rfl : adc115 = ad117 := (by injection e117)
                        replace p117 := eq_true p117
                        replace q117 := eq_true q117
                        go_wp2
                        all_goals (try (rename_i h_; exfalso; cases h_; done))
                        all_goals (try (rename_i h_ h2_; exfalso; cases h_; done))
                        go_roundg k2
                        case measure => have := HJ2.out; have := HK2.out; omega
                        case rel => exact ⟨(wrap64 ((wrap64 (x6_2 * 10)) + (((rd y111 x31_2) - 48) % 256))), (wrap64 (x31_2 + 1)), (by first | rfl | (simp; done) | (simp [*]; done)), (by first | rfl | (simp; done) | (simp [*]; done)), H', ⟨by have := HJ2.out; have := HK2.out; omega⟩, ⟨by repeat (first | (with_reducible exact HRv114.out) | (with_reducible refine Kd.C_alloc ?_ _) | (with_reducible refine Kd.C_drewN ?_ _) | (with_reducible refine Kd.C_drew ?_) | exact HRv114.out)⟩, ⟨wB⟩⟩
                  · rw [if_neg c2004] at H
                    exact absurd H (by simp)
                · rw [if_neg c2003] at H
                  exact absurd H (by simp)
              · rw [if_neg c2002] at H
                have c2002b0 : decide (x31_2 < (y111.length : Int)) = false := decide_eq_false c2002
                clear c2002
                simp only [Option.some.injEq, Prod.mk.injEq] at H
                obtain ⟨rfl, rfl⟩ := H
                go_wp2
                all_goals (try (rename_i h_; exfalso; cases h_; done))
                all_goals (try (rename_i h_ h2_; exfalso; cases h_; done))
                go_ret2
                exact ⟨by first | rfl | (simp [errW_none, errW_some] <;> rfl) | (simp [*, errW_none, errW_some] <;> rfl), wB⟩
        · rw [if_neg c1007] at H
          exact absurd H (by simp)

/-! ### impl_ReadAddr: function 14 -/
def impl_ReadAddr.l0 : Nat → List ByteArray → Int → Int → Int → Option (Int × Int)
  | 0, _, _, _, _ => none
  | k + 1, x4, x5, x16, x17 => if x17 < x16 then (if 0 ≤ x17 then (if x17 < (x4.length : Int) then ((impl_decimal.f k (rdOf ByteArray.empty x4 x17) 3).bind fun bt122 => (if bt122.2 = true then (if bt122.1 > 255 then (some (0, 6)) else (impl_ReadAddr.l0 k x4 (Go.bits .or .i64 (wrap64 (x5 * 256)) bt122.1) x16 (wrap64 (x17 + 1)))) else (some (0, 6)))) else (none)) else (none)) else (some (x5, 0))
def impl_ReadAddr.f (k : Nat) (a0 : ByteArray) : Option (Int × Int) := (strings_Split.f a0 (⟨#[46]⟩ : ByteArray)).bind fun t118 => (if (t118.length : Int) = 4 then (impl_ReadAddr.l0 k t118 0 (t118.length : Int) 0) else (some (0, 6)))
theorem impl_ReadAddr.mono_l : ∀ k, (∀ y0 y1 y2 y3, LeO (impl_ReadAddr.l0 k y0 y1 y2 y3) (impl_ReadAddr.l0 (k + 1) y0 y1 y2 y3))
  | 0 => fun _ _ _ _ r h => by simp [impl_ReadAddr.l0] at h
  | k + 1 => by
    have ih0 := impl_ReadAddr.mono_l k
    · intro y0 y1 y2 y3
      unfold impl_ReadAddr.l0
      repeat' first
      | (with_reducible exact ih0 _ _ _ _)
      | (with_reducible exact impl_decimal.mono _ _ _)
      | (with_reducible exact LeO.refl _)
      | (with_reducible exact LeO.none _)
      | (with_reducible refine LeO.ite ?_ ?_)
      | (with_reducible refine LeO.bind ?_ (fun _ => ?_))
      | exact ih0 _ _ _ _
      | exact impl_decimal.mono _ _ _
      | exact LeO.none _
      | refine LeO.ite ?_ ?_
      | refine LeO.bind ?_ (fun _ => ?_)
theorem impl_ReadAddr.mono : ∀ a0 k, LeO (impl_ReadAddr.f k a0) (impl_ReadAddr.f (k + 1) a0) := by
  intro a0 k
  have ih0 := impl_ReadAddr.mono_l k
  unfold impl_ReadAddr.f
  repeat' first
      | (with_reducible exact ih0 _ _ _ _)
      | (with_reducible exact impl_decimal.mono _ _ _)
      | (with_reducible exact LeO.refl _)
      | (with_reducible exact LeO.none _)
      | (with_reducible refine LeO.ite ?_ ?_)
      | (with_reducible refine LeO.bind ?_ (fun _ => ?_))
      | exact ih0 _ _ _ _
      | exact impl_decimal.mono _ _ _
      | exact LeO.none _
      | refine LeO.ite ?_ ?_
      | refine LeO.bind ?_ (fun _ => ?_)
set_option maxHeartbeats 60000000 in
set_option maxRecDepth 100000 in
theorem impl_ReadAddr.calls (k : Nat) (a0 : ByteArray) (r1 : Int) (r2 : Int) (w : World) (hd : Door w) (h : impl_ReadAddr.f k a0 = some (r1, r2)) :
    Calls Tryd.prog 14 #[.string a0] w fun e w' => e = .returned (.tuple #[.int .i64 r1, .int .i64 r2]) ∧ Below w.heap.size w w' := by
  have HD := Aside0.mk hd
  clear hd
  have HB := Aside0.mk (Below.refl w.heap.size w)
  have H : ((strings_Split.f a0 (⟨#[46]⟩ : ByteArray)).bind fun t118 => (if (t118.length : Int) = 4 then (impl_ReadAddr.l0 k t118 0 (t118.length : Int) 0) else (some (0, 6)))) = some (r1, r2) := h
  clear h
  replace H := Option.bind_eq_some_iff.mp H
  obtain ⟨t118, A20, H⟩ := H
  replace H : (if (t118.length : Int) = 4 then (impl_ReadAddr.l0 k t118 0 (t118.length : Int) 0) else (some (0, 6))) = some (r1, r2) := H
  have A2 := Aside0.mk A20
  clear A20
  by_cases c3 : (t118.length : Int) = 4
  · rw [if_pos c3] at H
    have c3b0 : ((t118.length : Int) == 4) = true := beq_iff_eq.mpr c3
    have c3b1 : ((t118.length : Int) != 4) = false := bne_eq_false_iff_eq.mpr c3
    clear c3
    have H' := Aside0.mk H
    clear H
    go_enter Tryd.func14, Tryd.ntmps14
    go_wp2_with (first | ((with_reducible refine gate_callee (f := 36) rfl ?_); refine goesL_ (some 11) rfl rfl Tryd.func36 (by kernel_rfl) rfl #[.string a0, .string (⟨#[46]⟩ : ByteArray)] rfl wT ?_; (with_reducible refine (strings_Split.calls a0 (⟨#[46]⟩ : ByteArray) t118 _ ?side1 A2.out).mono ?_); (case side1 => repeat (first | exact HD.out | (with_reducible refine Door.c_alloc ?_ _) | (with_reducible refine Door.c_drewN ?_ _) | (with_reducible refine Door.c_drew ?_))); rintro e w1001 ⟨v119, rfl, ho0, hb⟩; refine ⟨_, rfl, ?_⟩; have n0_ := Aside0.mk (Kd.R_lower ho0 (below_size wB)); have n1_ := Aside0.mk (below_step wB hb); clear HB; have HO120 := n0_; have HB := n1_; clear n0_ n1_; (try clear hb); (try clear hb2); (try clear hk); (try clear hi); (try clear ho0); obtain ⟨Ao1002, co1002, eo1002⟩ := Kd.R_slice HO120.out; subst eo1002))
    go_loopg [5, 17] k (fun kq v5 v17 w' => ∃ (x5_1 : Int) (x17_1 : Int), v5 = .int .i64 x5_1 ∧ v17 = .int .i64 x17_1 ∧ Aside0 (impl_ReadAddr.l0 kq t118 x5_1 (t118.length : Int) x17_1 = some (r1, r2)) ∧ Aside0 (kq ≤ k) ∧ Aside0 (Kd.R Kd.string 9 w' w.heap.size (fun _ => True) (.slice Ao1002 t118.length co1002) t118) ∧ Aside0 (Below w.heap.size w w'))
    case atStart => exact ⟨(0), (0), (by first | rfl | (simp; done) | (simp [*]; done)), (by first | rfl | (simp; done) | (simp [*]; done)), H', ⟨Nat.le_refl _⟩, ⟨Rh HO120⟩, ⟨wB⟩⟩
    case round =>
      clear H'
      try clear c3
      try clear c3b0
      try clear c3b1
      obtain ⟨x5_1, x17_1, rfl, rfl, HA, HK1, HO_4, HB⟩ := hrel
      cases gk with
      | zero => exact absurd HA.out (by simp [impl_ReadAddr.l0])
      | succ k1 =>
        have H := HA.out
        clear HA
        simp only [impl_ReadAddr.l0] at H
        by_cases c1003 : x17_1 < (t118.length : Int)
        · rw [if_pos c1003] at H
          have c1003b0 : decide (x17_1 < (t118.length : Int)) = true := decide_eq_true c1003
          clear c1003
          by_cases c1004 : 0 ≤ x17_1
          · rw [if_pos c1004] at H
            have c1004b0 : decide (0 ≤ x17_1) = true := decide_eq_true c1004
            clear c1004
            by_cases c1005 : x17_1 < (t118.length : Int)
            · rw [if_pos c1005] at H
              have c1005b0 : decide (x17_1 < (t118.length : Int)) = true := decide_eq_true c1005
              clear c1005
              replace H := Option.bind_eq_some_iff.mp H
              obtain ⟨⟨t122, t123⟩, A10060, H⟩ := H
              replace H : (if t123 = true then (if t122 > 255 then (some (0, 6)) else (impl_ReadAddr.l0 k1 t118 (Go.bits .or .i64 (wrap64 (x5_1 * 256)) t122) (t118.length : Int) (wrap64 (x17_1 + 1)))) else (some (0, 6))) = some (r1, r2) := H
              have A1006 := Aside0.mk A10060
              clear A10060
              by_cases c1007 : t123 = true
              · subst c1007
                have H1 : (if t122 > 255 then (some (0, 6)) else (impl_ReadAddr.l0 k1 t118 (Go.bits .or .i64 (wrap64 (x5_1 * 256)) t122) (t118.length : Int) (wrap64 (x17_1 + 1)))) = some (r1, r2) := by rw [if_pos rfl] at H; exact H
                clear H
                have H := H1
                clear H1
                by_cases c1008 : t122 > 255
                · rw [if_pos c1008] at H
                  have c1008b0 : decide (255 < t122) = true := decide_eq_true c1008
                  clear c1008
                  simp only [Option.some.injEq, Prod.mk.injEq] at H
                  obtain ⟨rfl, rfl⟩ := H
                  have p121 : 0 ≤ (x17_1 : Int) := of_decide_eq_true (by first | (with_reducible assumption) | assumption)
                  have q121 : x17_1 < (t118.length : Int) := of_decide_eq_true (by first | (with_reducible assumption) | assumption)
                  obtain ⟨ad121, e121, hx121_0⟩ := Kd.at_string (Kd.R_reads' HO_4.out).2.2 x17_1 p121 q121
                  cases e121
                  replace p121 := eq_true p121
                  replace q121 := eq_true q121
                  (try clear HO_4)
                  go_wp2_with (first | ((with_reducible refine gate_callee (f := 37) rfl ?_); refine goesL_ (some 23) rfl rfl Tryd.func37 (by kernel_rfl) rfl #[.string (rdOf ByteArray.empty t118 x17_1), .int .i64 3] rfl wT ?_; (with_reducible refine (impl_decimal.calls k1 (rdOf ByteArray.empty t118 x17_1) 3 t122 true _ A1006.out).mono ?_); rintro e w2001 ⟨rfl, hb⟩; refine ⟨_, rfl, ?_⟩; have n0_ := Aside0.mk (below_step wB hb); clear HB; have HB := n0_; clear n0_; (try clear hb); (try clear hb2); (try clear hk); (try clear hi)))
                  go_ret2
                  exact ⟨by first | rfl | (simp [errW_none, errW_some] <;> rfl) | (simp [*, errW_none, errW_some] <;> rfl), wB⟩
                · rw [if_neg c1008] at H
                  have c1008b0 : decide (255 < t122) = false := decide_eq_false c1008
                  clear c1008
                  have H' := Aside0.mk H
                  clear H
                  have p121 : 0 ≤ (x17_1 : Int) := of_decide_eq_true (by first | (with_reducible assumption) | assumption)
                  have q121 : x17_1 < (t118.length : Int) := of_decide_eq_true (by first | (with_reducible assumption) | assumption)
                  obtain ⟨ad121, e121, hx121_0⟩ := Kd.at_string (Kd.R_reads' HO_4.out).2.2 x17_1 p121 q121
                  cases e121
                  replace p121 := eq_true p121
                  replace q121 := eq_true q121
                  go_wp2_with (first | ((with_reducible refine gate_callee (f := 37) rfl ?_); refine goesL_ (some 23) rfl rfl Tryd.func37 (by kernel_rfl) rfl #[.string (rdOf ByteArray.empty t118 x17_1), .int .i64 3] rfl wT ?_; (with_reducible refine (impl_decimal.calls k1 (rdOf ByteArray.empty t118 x17_1) 3 t122 true _ A1006.out).mono ?_); rintro e w2001 ⟨rfl, hb⟩; refine ⟨_, rfl, ?_⟩; have n0_ := Aside0.mk (Kd.R_below (Rh HO_4) hb); have n1_ := Aside0.mk (below_step wB hb); clear HO_4; clear HB; have HO_4 := n0_; have HB := n1_; clear n0_ n1_; (try clear hb); (try clear hb2); (try clear hk); (try clear hi)))
                  go_roundg k1
                  case measure => have := HK1.out; omega
                  case rel => exact ⟨(Go.bits .or .i64 (wrap64 (x5_1 * 256)) t122), (wrap64 (x17_1 + 1)), (by first | rfl | (simp; done) | (simp [*]; done)), (by first | rfl | (simp; done) | (simp [*]; done)), H', ⟨by have := HK1.out; omega⟩, ⟨Rh HO_4⟩, ⟨wB⟩⟩
              · replace c1007 := Bool.eq_false_iff.mpr c1007
                subst c1007
                have H1 : (some (0, 6)) = some (r1, r2) := by rw [if_neg (show ¬ (false = true) by decide)] at H; exact H
                clear H
                have H := H1
                clear H1
                simp only [Option.some.injEq, Prod.mk.injEq] at H
                obtain ⟨rfl, rfl⟩ := H
                have p121 : 0 ≤ (x17_1 : Int) := of_decide_eq_true (by first | (with_reducible assumption) | assumption)
                have q121 : x17_1 < (t118.length : Int) := of_decide_eq_true (by first | (with_reducible assumption) | assumption)
                obtain ⟨ad121, e121, hx121_0⟩ := Kd.at_string (Kd.R_reads' HO_4.out).2.2 x17_1 p121 q121
                cases e121
                replace p121 := eq_true p121
                replace q121 := eq_true q121
                (try clear HO_4)
                go_wp2_with (first | ((with_reducible refine gate_callee (f := 37) rfl ?_); refine goesL_ (some 23) rfl rfl Tryd.func37 (by kernel_rfl) rfl #[.string (rdOf ByteArray.empty t118 x17_1), .int .i64 3] rfl wT ?_; (with_reducible refine (impl_decimal.calls k1 (rdOf ByteArray.empty t118 x17_1) 3 t122 false _ A1006.out).mono ?_); rintro e w2001 ⟨rfl, hb⟩; refine ⟨_, rfl, ?_⟩; have n0_ := Aside0.mk (below_step wB hb); clear HB; have HB := n0_; clear n0_; (try clear hb); (try clear hb2); (try clear hk); (try clear hi)))
                go_ret2
                exact ⟨by first | rfl | (simp [errW_none, errW_some] <;> rfl) | (simp [*, errW_none, errW_some] <;> rfl), wB⟩
            · rw [if_neg c1005] at H
              exact absurd H (by simp)
          · rw [if_neg c1004] at H
            exact absurd H (by simp)
        · rw [if_neg c1003] at H
          have c1003b0 : decide (x17_1 < (t118.length : Int)) = false := decide_eq_false c1003
          clear c1003
          simp only [Option.some.injEq, Prod.mk.injEq] at H
          obtain ⟨rfl, rfl⟩ := H
          go_wp2
          go_ret2
          exact ⟨by first | rfl | (simp [errW_none, errW_some] <;> rfl) | (simp [*, errW_none, errW_some] <;> rfl), wB⟩
  · rw [if_neg c3] at H
    have c3b0 : ((t118.length : Int) == 4) = false := beq_eq_false_iff_ne.mpr c3
    have c3b1 : ((t118.length : Int) != 4) = true := bne_iff_ne.mpr c3
    simp only [Option.some.injEq, Prod.mk.injEq] at H
    obtain ⟨rfl, rfl⟩ := H
    go_enter Tryd.func14, Tryd.ntmps14
    go_wp2_with (first | ((with_reducible refine gate_callee (f := 36) rfl ?_); refine goesL_ (some 11) rfl rfl Tryd.func36 (by kernel_rfl) rfl #[.string a0, .string (⟨#[46]⟩ : ByteArray)] rfl wT ?_; (with_reducible refine (strings_Split.calls a0 (⟨#[46]⟩ : ByteArray) t118 _ ?side1 A2.out).mono ?_); (case side1 => repeat (first | exact HD.out | (with_reducible refine Door.c_alloc ?_ _) | (with_reducible refine Door.c_drewN ?_ _) | (with_reducible refine Door.c_drew ?_))); rintro e w1001 ⟨v119, rfl, ho0, hb⟩; refine ⟨_, rfl, ?_⟩; have n0_ := Aside0.mk (Kd.R_lower ho0 (below_size wB)); have n1_ := Aside0.mk (below_step wB hb); clear HB; have HO120 := n0_; have HB := n1_; clear n0_ n1_; (try clear hb); (try clear hb2); (try clear hk); (try clear hi); (try clear ho0); obtain ⟨Ao1002, co1002, eo1002⟩ := Kd.R_slice HO120.out; subst eo1002))
    go_ret2
    exact ⟨by first | rfl | (simp [errW_none, errW_some] <;> rfl) | (simp [*, errW_none, errW_some] <;> rfl), wB⟩

/-! ### impl_isMac: function 38 -/
def impl_isMac.f (a0 : Int) : Option (Bool) := if a0 ≥ 0 then (some (decide (a0 ≤ 281474976710655))) else (some false)
set_option maxHeartbeats 60000000 in
set_option maxRecDepth 100000 in
theorem impl_isMac.calls (a0 : Int) (r : Bool) (w : World) (h : impl_isMac.f a0 = some r) :
    Calls Tryd.prog 38 #[.int .i64 a0] w fun e w' => e = .returned (.bool r) ∧ Drawn0 w w' := by
  have H : (if a0 ≥ 0 then (some (decide (a0 ≤ 281474976710655))) else (some false)) = some r := h
  clear h
  by_cases c2 : a0 ≥ 0
  · rw [if_pos c2] at H
    have c2b0 : decide (0 ≤ a0) = true := decide_eq_true c2
    clear c2
    obtain rfl := Option.some.inj H
    go_enter Tryd.func38, Tryd.ntmps38
    go_wp2
    go_ret
    exact ⟨by first | rfl | (simp; done) | (simp [*]; done), by repeat (first | exact Drawn0.refl _ | apply Drawn0.step)⟩
  · rw [if_neg c2] at H
    have c2b0 : decide (0 ≤ a0) = false := decide_eq_false c2
    clear c2
    obtain rfl := Option.some.inj H
    go_enter Tryd.func38, Tryd.ntmps38
    go_wp2
    go_ret
    exact ⟨by first | rfl | (simp; done) | (simp [*]; done), by repeat (first | exact Drawn0.refl _ | apply Drawn0.step)⟩

/-! ### impl_ShowMac: function 15 -/
def impl_ShowMac.l0 : Nat → Int → List ByteArray → Int → Option (ByteArray × Int)
  | 0, _, _, _ => none
  | k + 1, x0, x4, x5 => if x5 ≥ 0 then (if 0 ≤ x5 then ((strconv_FormatInt.f (Go.bits .and .i64 (shr .i64 x0 x5) 255) 16).bind fun t125 => (if (t125.size : Int) < 2 then (if 1 + t125.size ≤ 9223372036854775807 then (if x4.length < 8796093022208 then (impl_ShowMac.l0 k x0 (x4 ++ [(⟨#[48]⟩ : ByteArray) ++ t125]) (wrap64 (x5 - 8))) else (none)) else (none)) else (if x4.length < 8796093022208 then (impl_ShowMac.l0 k x0 (x4 ++ [t125]) (wrap64 (x5 - 8))) else (none)))) else (none)) else ((strings_Join.f x4 (⟨#[58]⟩ : ByteArray)).bind fun t132 => (some (t132, 0)))
def impl_ShowMac.f (k : Nat) (a0 : Int) : Option (ByteArray × Int) := (impl_isMac.f a0).bind fun t124 => (if t124 = true then (impl_ShowMac.l0 k a0 ([] : List ByteArray) 40) else (some ((⟨#[]⟩ : ByteArray), 1)))
theorem impl_ShowMac.mono_l : ∀ k, (∀ y0 y1 y2, LeO (impl_ShowMac.l0 k y0 y1 y2) (impl_ShowMac.l0 (k + 1) y0 y1 y2))
  | 0 => fun _ _ _ r h => by simp [impl_ShowMac.l0] at h
  | k + 1 => by
    have ih0 := impl_ShowMac.mono_l k
    · intro y0 y1 y2
      unfold impl_ShowMac.l0
      repeat' first
      | (with_reducible exact ih0 _ _ _)
      | (with_reducible exact LeO.refl _)
      | (with_reducible exact LeO.none _)
      | (with_reducible refine LeO.ite ?_ ?_)
      | (with_reducible refine LeO.bind ?_ (fun _ => ?_))
      | exact ih0 _ _ _
      | exact LeO.none _
      | refine LeO.ite ?_ ?_
      | refine LeO.bind ?_ (fun _ => ?_)
theorem impl_ShowMac.mono : ∀ a0 k, LeO (impl_ShowMac.f k a0) (impl_ShowMac.f (k + 1) a0) := by
  intro a0 k
  have ih0 := impl_ShowMac.mono_l k
  unfold impl_ShowMac.f
  repeat' first
      | (with_reducible exact ih0 _ _ _)
      | (with_reducible exact LeO.refl _)
      | (with_reducible exact LeO.none _)
      | (with_reducible refine LeO.ite ?_ ?_)
      | (with_reducible refine LeO.bind ?_ (fun _ => ?_))
      | exact ih0 _ _ _
      | exact LeO.none _
      | refine LeO.ite ?_ ?_
      | refine LeO.bind ?_ (fun _ => ?_)
set_option maxHeartbeats 60000000 in
set_option maxRecDepth 100000 in
theorem impl_ShowMac.calls (k : Nat) (a0 : Int) (r1 : ByteArray) (r2 : Int) (w : World) (hd : Door w) (h : impl_ShowMac.f k a0 = some (r1, r2)) :
    Calls Tryd.prog 15 #[.int .i64 a0] w fun e w' => e = .returned (.tuple #[.string r1, .int .i64 r2]) ∧ Below w.heap.size w w' := by
  have HD := Aside0.mk hd
  clear hd
  have HB := Aside0.mk (Below.refl w.heap.size w)
  have H : ((impl_isMac.f a0).bind fun t124 => (if t124 = true then (impl_ShowMac.l0 k a0 ([] : List ByteArray) 40) else (some ((⟨#[]⟩ : ByteArray), 1)))) = some (r1, r2) := h
  clear h
  replace H := Option.bind_eq_some_iff.mp H
  obtain ⟨t124, A20, H⟩ := H
  replace H : (if t124 = true then (impl_ShowMac.l0 k a0 ([] : List ByteArray) 40) else (some ((⟨#[]⟩ : ByteArray), 1))) = some (r1, r2) := H
  have A2 := Aside0.mk A20
  clear A20
  by_cases c3 : t124 = true
  · subst c3
    have H1 : (impl_ShowMac.l0 k a0 ([] : List ByteArray) 40) = some (r1, r2) := by rw [if_pos rfl] at H; exact H
    clear H
    have H := H1
    clear H1
    have H' := Aside0.mk H
    clear H
    go_enter Tryd.func15, Tryd.ntmps15
    go_wp2_with (first | ((with_reducible refine gate_callee (f := 38) rfl ?_); refine goesL_ (some 8) rfl rfl Tryd.func38 (by kernel_rfl) rfl #[.int .i64 a0] rfl wT ?_; (with_reducible refine (impl_isMac.calls a0 true _ A2.out).mono ?_); rintro e w' ⟨rfl, ⟨nd, rfl⟩⟩; refine ⟨_, rfl, ?_⟩))
    go_loopg [4, 5] k (fun kq v4 v5 w' => ∃ (x4_1 : List ByteArray) (x5_1 : Int), v5 = .int .i64 x5_1 ∧ Aside0 (impl_ShowMac.l0 kq a0 x4_1 x5_1 = some (r1, r2)) ∧ Aside0 (kq ≤ k) ∧ Aside0 (Kd.R Kd.string 9 w' w.heap.size (fun _ => True) v4 x4_1) ∧ Aside0 (Below w.heap.size w w'))
    case atStart => exact ⟨(([] : List ByteArray)), (40), (by first | rfl | (simp; done) | (simp [*]; done)), H', ⟨Nat.le_refl _⟩, ⟨by first | exact Kd.R_nil _ _ _ _ _ | exact Kd.N_nil _ _ _ _ _ | exact Kd.V_nil _ _ _ _ _ | exact Kd.Q_nil _ _ _ _ _ | exact Kd.S_nil _ _ _ _ _⟩, ⟨wB⟩⟩
    case round =>
      clear H'
      try clear c3
      obtain ⟨x4_1, x5_1, rfl, HA, HK1, HO_4, HB⟩ := hrel
      cases gk with
      | zero => exact absurd HA.out (by simp [impl_ShowMac.l0])
      | succ k1 =>
        have H := HA.out
        clear HA
        simp only [impl_ShowMac.l0] at H
        by_cases c1001 : x5_1 ≥ 0
        · rw [if_pos c1001] at H
          have c1001b0 : decide (0 ≤ x5_1) = true := decide_eq_true c1001
          clear c1001
          by_cases c1002 : 0 ≤ x5_1
          · rw [if_pos c1002] at H
            have c1002b0 := eq_true c1002
            have c1002b1 : decide (0 ≤ x5_1) = true := decide_eq_true c1002
            clear c1002
            obtain ⟨ji1003, hji1003⟩ : ∃ j_ : Int, (shr .i64 a0 x5_1) = j_ := ⟨_, rfl⟩
            replace H : ((strconv_FormatInt.f (Go.bits .and .i64 (ji1003) 255) 16).bind fun t125 => (if (t125.size : Int) < 2 then (if 1 + t125.size ≤ 9223372036854775807 then (if x4_1.length < 8796093022208 then (impl_ShowMac.l0 k1 a0 (x4_1 ++ [(⟨#[48]⟩ : ByteArray) ++ t125]) (wrap64 (x5_1 - 8))) else (none)) else (none)) else (if x4_1.length < 8796093022208 then (impl_ShowMac.l0 k1 a0 (x4_1 ++ [t125]) (wrap64 (x5_1 - 8))) else (none)))) = some (r1, r2) := by first | (rw [hji1003] at H; exact H) | (simp only [hji1003] at H ⊢; exact H)
            have hji1003_ : (a0 / 2 ^ min x5_1.toNat 64) = ji1003 := hji1003
            have hji1003z : x5_1 ≤ 64 → (a0 / 2 ^ x5_1.toNat) = ji1003 := shr_small hji1003
            replace H := Option.bind_eq_some_iff.mp H
            obtain ⟨t125, A10040, H⟩ := H
            replace H : (if (t125.size : Int) < 2 then (if 1 + t125.size ≤ 9223372036854775807 then (if x4_1.length < 8796093022208 then (impl_ShowMac.l0 k1 a0 (x4_1 ++ [(⟨#[48]⟩ : ByteArray) ++ t125]) (wrap64 (x5_1 - 8))) else (none)) else (none)) else (if x4_1.length < 8796093022208 then (impl_ShowMac.l0 k1 a0 (x4_1 ++ [t125]) (wrap64 (x5_1 - 8))) else (none))) = some (r1, r2) := H
            have A1004 := Aside0.mk A10040
            clear A10040
            by_cases c1005 : (t125.size : Int) < 2
            · rw [if_pos c1005] at H
              have c1005b0 : decide ((t125.size : Int) < 2) = true := decide_eq_true c1005
              have c1005b1 : decide (t125.size < 2) = true := decide_eq_true (by omega)
              clear c1005
              by_cases c1006 : 1 + t125.size ≤ 9223372036854775807
              · rw [if_pos c1006] at H
                have c1006b0 := eq_true c1006
                have c1006b1 : decide (1 + t125.size ≤ 9223372036854775807) = true := decide_eq_true c1006
                try have c1006b2 : (9223372036854775807 < 1 + t125.size) = False := eq_false (Nat.not_lt.2 c1006)
                by_cases c1007 : x4_1.length < 8796093022208
                · rw [if_pos c1007] at H
                  have LMc1007 := Aside0.mk c1007
                  clear c1007
                  obtain ⟨y126, hy126⟩ : ∃ y_ : List ByteArray, y_ = (x4_1 ++ [(⟨#[48]⟩ : ByteArray) ++ t125]) := ⟨_, rfl⟩
                  replace H : (impl_ShowMac.l0 k1 a0 y126 (wrap64 (x5_1 - 8))) = some (r1, r2) := by first | (rw [hy126]; with_reducible exact H) | (have H2_ := (Option.bind_some _ _).symm.trans H; rw [hy126]; with_reducible exact H2_) | (have H2_ := (Option.bind_some _ _).symm.trans H; with_reducible exact H2_) | with_reducible exact H | (rw [hy126]; exact H) | exact H
                  have Ny126 := Aside0.mk hy126
                  clear hy126
                  have H' := Aside0.mk H
                  clear H
                  go_wp2_with (first | ((with_reducible refine gate_callee (f := 34) rfl ?_); refine goesL_ (some 18) rfl rfl Tryd.func34 (by kernel_rfl) rfl #[.int .i64 (Go.bits .and .i64 (ji1003) 255), .int .i64 16] rfl (by (try simp only [List.map_toArray, List.map_cons, List.map_nil]); first | done | (simp only [hji1003]; rfl) | rfl | (simp only [List.length_drop, List.length_take]; rfl)) ?_; (with_reducible refine (strconv_FormatInt.calls (Go.bits .and .i64 (ji1003) 255) 16 t125 _ ?side1 A1004.out).mono ?_); (case side1 => repeat (first | exact (Door.c_below HD.out HB.out) | (with_reducible refine Door.c_alloc ?_ _) | (with_reducible refine Door.c_drewN ?_ _) | (with_reducible refine Door.c_drew ?_))); rintro e w2001 ⟨rfl, hb⟩; refine ⟨_, rfl, ?_⟩; have n0_ := Aside0.mk (Kd.R_below (Rh HO_4) hb); have n1_ := Aside0.mk (below_step wB hb); clear HO_4; clear HB; have HO_4 := n0_; have HB := n1_; clear n0_ n1_; (try clear hb); (try clear hb2); (try clear hk); (try clear hi)) | ((with_reducible refine gate_builtin (b := .append) (xs := #[.tmp 24, .tmp 26]) rfl ?_); at_builtin; refine Kd.R_append Kd.string (w0 := w) w.heap.size rfl (.tmp 24) (.tmp 26) 54 9 (.string ⟨#[]⟩) 16 rfl Tryd.underlying54 info9 rfl (by decide) (by omega) u4 x4_1 ((⟨#[48]⟩ : ByteArray) ++ t125) [.string ((⟨#[48]⟩ : ByteArray) ++ t125)] (fun _ => True) (fun _ => False) rfl rfl ?aP (fun _ hk => hk.elim) ?aF ?aO ?aB ?aS ?aL ?_; (case aP => exact rfl); (case aB => exact wB); (case aF => exact (fun _ _ => trivial)); (case aO => exact (Rh HO_4)); (case aS => exact (below_size wB)); (case aL => have := LMc1007.out; omega); intro v127 w2002 ho hb hg hat; rw [← Ny126.out] at ho; have n0_ := Aside0.mk (hb); have n1_ := Aside0.mk (ho); clear HB; clear HO_4; have HB := n0_; have HO128 := n1_; clear n0_ n1_; clear ho hb hg hat))
                  go_roundg k1
                  case measure => have := HK1.out; omega
                  case rel => exact ⟨(y126), (wrap64 (x5_1 - 8)), (by first | rfl | (simp; done) | (simp [*]; done)), H', ⟨by have := HK1.out; omega⟩, ⟨Rh HO128⟩, ⟨wB⟩⟩
                · rw [if_neg c1007] at H
                  exact absurd H (by simp)
              · rw [if_neg c1006] at H
                exact absurd H (by simp)
            · rw [if_neg c1005] at H
              have c1005b0 : decide ((t125.size : Int) < 2) = false := decide_eq_false c1005
              have c1005b1 : decide (t125.size < 2) = false := decide_eq_false (by omega)
              clear c1005
              by_cases c1008 : x4_1.length < 8796093022208
              · rw [if_pos c1008] at H
                have LMc1008 := Aside0.mk c1008
                clear c1008
                obtain ⟨y129, hy129⟩ : ∃ y_ : List ByteArray, y_ = (x4_1 ++ [t125]) := ⟨_, rfl⟩
                replace H : (impl_ShowMac.l0 k1 a0 y129 (wrap64 (x5_1 - 8))) = some (r1, r2) := by first | (rw [hy129]; with_reducible exact H) | (have H2_ := (Option.bind_some _ _).symm.trans H; rw [hy129]; with_reducible exact H2_) | (have H2_ := (Option.bind_some _ _).symm.trans H; with_reducible exact H2_) | with_reducible exact H | (rw [hy129]; exact H) | exact H
                have Ny129 := Aside0.mk hy129
                clear hy129
                have H' := Aside0.mk H
                clear H
                go_wp2_with (first | ((with_reducible refine gate_callee (f := 34) rfl ?_); refine goesL_ (some 18) rfl rfl Tryd.func34 (by kernel_rfl) rfl #[.int .i64 (Go.bits .and .i64 (ji1003) 255), .int .i64 16] rfl (by (try simp only [List.map_toArray, List.map_cons, List.map_nil]); first | done | (simp only [hji1003]; rfl) | rfl | (simp only [List.length_drop, List.length_take]; rfl)) ?_; (with_reducible refine (strconv_FormatInt.calls (Go.bits .and .i64 (ji1003) 255) 16 t125 _ ?side1 A1004.out).mono ?_); (case side1 => repeat (first | exact (Door.c_below HD.out HB.out) | (with_reducible refine Door.c_alloc ?_ _) | (with_reducible refine Door.c_drewN ?_ _) | (with_reducible refine Door.c_drew ?_))); rintro e w2001 ⟨rfl, hb⟩; refine ⟨_, rfl, ?_⟩; have n0_ := Aside0.mk (Kd.R_below (Rh HO_4) hb); have n1_ := Aside0.mk (below_step wB hb); clear HO_4; clear HB; have HO_4 := n0_; have HB := n1_; clear n0_ n1_; (try clear hb); (try clear hb2); (try clear hk); (try clear hi)) | ((with_reducible refine gate_builtin (b := .append) (xs := #[.tmp 24, .tmp 26]) rfl ?_); at_builtin; refine Kd.R_append Kd.string (w0 := w) w.heap.size rfl (.tmp 24) (.tmp 26) 54 9 (.string ⟨#[]⟩) 16 rfl Tryd.underlying54 info9 rfl (by decide) (by omega) u4 x4_1 t125 [.string t125] (fun _ => True) (fun _ => False) rfl rfl ?aP (fun _ hk => hk.elim) ?aF ?aO ?aB ?aS ?aL ?_; (case aP => exact rfl); (case aB => exact wB); (case aF => exact (fun _ _ => trivial)); (case aO => exact (Rh HO_4)); (case aS => exact (below_size wB)); (case aL => have := LMc1008.out; omega); intro v130 w2002 ho hb hg hat; rw [← Ny129.out] at ho; have n0_ := Aside0.mk (hb); have n1_ := Aside0.mk (ho); clear HB; clear HO_4; have HB := n0_; have HO131 := n1_; clear n0_ n1_; clear ho hb hg hat))
                go_roundg k1
                case measure => have := HK1.out; omega
                case rel => exact ⟨(y129), (wrap64 (x5_1 - 8)), (by first | rfl | (simp; done) | (simp [*]; done)), H', ⟨by have := HK1.out; omega⟩, ⟨Rh HO131⟩, ⟨wB⟩⟩
              · rw [if_neg c1008] at H
                exact absurd H (by simp)
          · rw [if_neg c1002] at H
            exact absurd H (by simp)
        · rw [if_neg c1001] at H
          have c1001b0 : decide (0 ≤ x5_1) = false := decide_eq_false c1001
          clear c1001
          replace H := Option.bind_eq_some_iff.mp H
          obtain ⟨t132, A10090, H⟩ := H
          replace H : (some (t132, 0)) = some (r1, r2) := H
          have A1009 := Aside0.mk A10090
          clear A10090
          simp only [Option.some.injEq, Prod.mk.injEq] at H
          obtain ⟨rfl, rfl⟩ := H
          obtain ⟨Ao2001, co2001, eo2001⟩ := Kd.R_slice HO_4.out
          subst eo2001
          go_wp2_with (first | ((with_reducible refine gate_callee (f := 35) rfl ?_); refine goesL_ (some 29) rfl rfl Tryd.func35 (by kernel_rfl) rfl #[.slice Ao2001 x4_1.length co2001, .string (⟨#[58]⟩ : ByteArray)] rfl wT ?_; (with_reducible refine (strings_Join.calls _ _ x4_1 (⟨#[58]⟩ : ByteArray) t132 _ ?side1 ?side2 A1009.out).mono ?_); (case side1 => exact Ch HO_4); (case side2 => exact (Kd.R_reads' HO_4.out).2.1); rintro e w2002 ⟨rfl, hb⟩; refine ⟨_, rfl, ?_⟩; have n0_ := Aside0.mk (Kd.R_below (Rh HO_4) hb); have n1_ := Aside0.mk (below_step wB hb); clear HO_4; clear HB; have HO_4 := n0_; have HB := n1_; clear n0_ n1_; (try clear hb); (try clear hb2); (try clear hk); (try clear hi)))
          go_ret2
          exact ⟨by first | rfl | (simp [errW_none, errW_some] <;> rfl) | (simp [*, errW_none, errW_some] <;> rfl), wB⟩
  · replace c3 := Bool.eq_false_iff.mpr c3
    subst c3
    have H1 : (some ((⟨#[]⟩ : ByteArray), 1)) = some (r1, r2) := by rw [if_neg (show ¬ (false = true) by decide)] at H; exact H
    clear H
    have H := H1
    clear H1
    simp only [Option.some.injEq, Prod.mk.injEq] at H
    obtain ⟨rfl, rfl⟩ := H
    go_enter Tryd.func15, Tryd.ntmps15
    go_wp2_with (first | ((with_reducible refine gate_callee (f := 38) rfl ?_); refine goesL_ (some 8) rfl rfl Tryd.func38 (by kernel_rfl) rfl #[.int .i64 a0] rfl wT ?_; (with_reducible refine (impl_isMac.calls a0 false _ A2.out).mono ?_); rintro e w' ⟨rfl, ⟨nd, rfl⟩⟩; refine ⟨_, rfl, ?_⟩))
    go_ret2
    exact ⟨by first | rfl | (simp [errW_none, errW_some] <;> rfl) | (simp [*, errW_none, errW_some] <;> rfl), wB⟩

/-! ### strings_IndexByte: function 39 -/
def strings_IndexByte.f (a0 : ByteArray) (a1 : Int) : Option Int := some (Lib.indexByte a0.data.toList a1.toNat.toUInt8)
theorem strings_IndexByte.calls (a0 : ByteArray) (a1 : Int) (r : Int) (w : World) (h : strings_IndexByte.f a0 a1 = some r) :
    Calls Tryd.prog 39 #[.string a0, .int .u8 a1] w fun e w' => e = .returned (.int .i64 r) ∧ Drawn0 w w' := by
  obtain rfl := Option.some.inj h
  refine (Tryd.strings_IndexByte a0 a1 w).mono ?_
  rintro e w' ⟨rfl, rfl⟩
  exact ⟨rfl, 0, rfl⟩


end Go.Proofs.YtnnplkhjmdbmbaaDoor.PFnAddrText
