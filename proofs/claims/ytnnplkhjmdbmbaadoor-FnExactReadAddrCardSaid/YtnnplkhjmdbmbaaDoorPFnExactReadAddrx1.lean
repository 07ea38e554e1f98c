-- Written for this claim by a program of this session (wip/mkprint.py: the print, turned at a few places). Not trusted: Lean checks it.
import Derived.Test.YtnnplkhjmdbmbaaDoorPFnExactReadAddrx0
namespace Go.Proofs.YtnnplkhjmdbmbaaDoor.PFnExactReadAddr
open Go.RowKit Go.Proofs.YtnnplkhjmdbmbaaDoorW.PrintWords Go.Proofs.YtnnplkhjmdbmbaaDoorW.PrintLast Go.Proofs.YtnnplkhjmdbmbaaDoorW.PrintMore
attribute [local go_sem] max2_int min2_int max_two min_two max_three min_three max_four min_four   -- for this text's walks alone
set_option linter.unusedVariables false
set_option linter.unusedSimpArgs false

/-! ### strings_Split: function 36 -/
def strings_Split.f (a0 a1 : ByteArray) : Option (List ByteArray) := if a0.size < 4294967281 ∧ 1 ≤ a1.size then some (Lib.splitB a1 0 (Lib.countB a0 a1) a0) else none
theorem strings_Split.row (w : World) (xs : List ByteArray) (hn : xs.length ≤ 9223372036854775807) : Kd.R Kd.string 9 (w.alloc (.cells (xs.map Value.string).toArray 9)) w.heap.size (fun _ => True) (.slice (some ⟨w.heap.size, 0, none⟩) xs.length xs.length) xs := by
  refine ⟨fun _ _ => trivial, OwnRow.lit w _ ⟨by show _ = xs.length * 1; simp, fun j p hj => ?_⟩ (Nat.le_refl _) hn⟩
  show ((xs.map Value.string).drop (j * 1)).take 1 = [Value.string p]
  obtain ⟨hl, rfl⟩ := List.getElem?_eq_some_iff.1 hj
  rw [Nat.mul_one, List.drop_eq_getElem_cons (by simpa using hl)]
  simp
theorem strings_Split.calls (a0 a1 : ByteArray) (r : List ByteArray) (w : World) (hd : Door w) (h : strings_Split.f a0 a1 = some r) :
    Calls Tryd.prog 36 #[.string a0, .string a1] w fun e w' => ∃ v0_ : Value, e = .returned (v0_) ∧ Kd.R Kd.string 9 w' w.heap.size (fun _ => True) v0_ r ∧ Below w.heap.size w w' := by
  unfold strings_Split.f at h
  split at h
  · rename_i hc
    obtain rfl := Option.some.inj h
    obtain ⟨m, hm⟩ := hd.1
    have hl := Lib.splitB_all a1 hc.2 0 (Lib.countB a0 a1) a0 rfl
    have hb := Lib.countB_le a1 hc.2 a0.size a0 (Nat.le_refl _)
    refine (Tryd.strings_Split a0 a1 m w hc.1 hm hc.2).mono ?_
    rintro e w' ⟨rfl, rfl⟩
    refine ⟨_, rfl, ?_, Below.alloc (Below.refl _ _) (Nat.le_refl _) _⟩
    rw [← hl]
    exact strings_Split.row w _ (by omega)
  · cases h


/-! ### impl_decimal: function 37 -/
mutual
def impl_decimal.j0 : Nat → ByteArray → Bool → Option (Int × Bool)
  | 0, _, _ => none
  | k + 1, x0, x27 => if x27 = true then (some (0, false)) else (if x0.size ≤ 9223372036854775807 then ((some (bytesOf x0 : List Int)).bind fun y101 => (impl_decimal.l0 k 0 y101 (y101.length : Int) 0)) else (none))
def impl_decimal.l0 : Nat → Int → List Int → Int → Int → Option (Int × Bool)
  | 0, _, _, _, _ => none
  | k + 1, x6, x29, x30, x31 => if x31 < x30 then (if 0 ≤ x31 then (if x31 < (x29.length : Int) then (if (rd x29 x31) < 48 then (some (0, false)) else (if (rd x29 x31) > 57 then (some (0, false)) else (impl_decimal.l0 k (wrap64 ((wrap64 (x6 * 10)) + (((rd x29 x31) - 48) % 256))) x29 x30 (wrap64 (x31 + 1))))) else (none)) else (none)) else (some (x6, true))
end
def impl_decimal.f (k : Nat) (a0 : ByteArray) (a1 : Int) : Option (Int × Bool) := if (a0.size : Int) = 0 then (impl_decimal.j0 k a0 true) else (if (a0.size : Int) > a1 then (impl_decimal.j0 k a0 true) else (if (a0.size : Int) > 1 then (if 0 < (a0.size : Int) then (impl_decimal.j0 k a0 ((bt a0 0) == 48)) else (none)) else (impl_decimal.j0 k a0 false)))
theorem impl_decimal.mono_l : ∀ k, (∀ y0 y1, LeO (impl_decimal.j0 k y0 y1) (impl_decimal.j0 (k + 1) y0 y1)) ∧ (∀ y0 y1 y2 y3, LeO (impl_decimal.l0 k y0 y1 y2 y3) (impl_decimal.l0 (k + 1) y0 y1 y2 y3))
  | 0 => ⟨fun _ _ r h => by simp [impl_decimal.j0] at h, fun _ _ _ _ r h => by simp [impl_decimal.l0] at h⟩
  | k + 1 => by
    obtain ⟨ih0, ih1⟩ := impl_decimal.mono_l k
    refine ⟨?_, ?_⟩
    · intro y0 y1
      unfold impl_decimal.j0
      repeat' first
      | (with_reducible exact ih0 _ _)
      | (with_reducible exact ih1 _ _ _ _)
      | (with_reducible exact LeO.refl _)
      | (with_reducible exact LeO.none _)
      | (with_reducible refine LeO.ite ?_ ?_)
      | (with_reducible refine LeO.bind ?_ (fun _ => ?_))
      | exact ih0 _ _
      | exact ih1 _ _ _ _
      | exact LeO.none _
      | refine LeO.ite ?_ ?_
      | refine LeO.bind ?_ (fun _ => ?_)
    · intro y0 y1 y2 y3
      unfold impl_decimal.l0
      repeat' first
      | (with_reducible exact ih0 _ _)
      | (with_reducible exact ih1 _ _ _ _)
      | (with_reducible exact LeO.refl _)
      | (with_reducible exact LeO.none _)
      | (with_reducible refine LeO.ite ?_ ?_)
      | (with_reducible refine LeO.bind ?_ (fun _ => ?_))
      | exact ih0 _ _
      | exact ih1 _ _ _ _
      | exact LeO.none _
      | refine LeO.ite ?_ ?_
      | refine LeO.bind ?_ (fun _ => ?_)
theorem impl_decimal.mono : ∀ a0 a1 k, LeO (impl_decimal.f k a0 a1) (impl_decimal.f (k + 1) a0 a1) := by
  intro a0 a1 k
  obtain ⟨ih0, ih1⟩ := impl_decimal.mono_l k
  unfold impl_decimal.f
  repeat' first
      | (with_reducible exact ih0 _ _)
      | (with_reducible exact ih1 _ _ _ _)
      | (with_reducible exact LeO.refl _)
      | (with_reducible exact LeO.none _)
      | (with_reducible refine LeO.ite ?_ ?_)
      | (with_reducible refine LeO.bind ?_ (fun _ => ?_))
      | exact ih0 _ _
      | exact ih1 _ _ _ _
      | exact LeO.none _
      | refine LeO.ite ?_ ?_
      | refine LeO.bind ?_ (fun _ => ?_)
set_option maxHeartbeats 60000000 in
set_option maxRecDepth 100000 in
theorem impl_decimal.calls (k : Nat) (a0 : ByteArray) (a1 : Int) (r1 : Int) (r2 : Bool) (w : World) (h : impl_decimal.f k a0 a1 = some (r1, r2)) :
    Calls Tryd.prog 37 #[.string a0, .int .i64 a1] w fun e w' => e = .returned (.tuple #[.int .i64 r1, .bool r2]) ∧ Below w.heap.size w w' := by
  have HB := Aside0.mk (Below.refl w.heap.size w)
  have H : (if (a0.size : Int) = 0 then (impl_decimal.j0 k a0 true) else (if (a0.size : Int) > a1 then (impl_decimal.j0 k a0 true) else (if (a0.size : Int) > 1 then (if 0 < (a0.size : Int) then (impl_decimal.j0 k a0 ((bt a0 0) == 48)) else (none)) else (impl_decimal.j0 k a0 false)))) = some (r1, r2) := h
  clear h
  have HC3 := Aside0.mk H
  clear H
  go_enter Tryd.func37, Tryd.ntmps37
  go_upto_region 1 with (fail)
  go_cut [27] (fun v27 wc => ∃ (kq : Nat) (x27_2 : Bool), v27 = .bool x27_2 ∧ Aside0 (impl_decimal.j0 kq a0 x27_2 = some (r1, r2)) ∧ Aside0 (kq ≤ k) ∧ Aside0 (Below w.heap.size w wc))
  case first =>
    have H := HC3.out
    clear HC3
    by_cases c1001 : (a0.size : Int) = 0
    · rw [if_pos c1001] at H
      have c1001b0 : ((a0.size : Int) == 0) = true := beq_iff_eq.mpr c1001
      have c1001b1 : ((a0.size : Int) != 0) = false := bne_eq_false_iff_eq.mpr c1001
      clear c1001
      (first | rw [c1001b0] | (simp only [i64_w, i32_w]; rw [c1001b0]) | skip)
      have H' := Aside0.mk H
      clear H
      go_wp2
      all_goals (try (rename_i h_; exfalso; cases h_; done))
      all_goals (try (rename_i h_ h2_; exfalso; cases h_; done))
      go_meet
      case rel => exact ⟨_, (true), (by first | rfl | (simp; done) | (simp [*]; done)), H', ⟨by first | omega | exact Nat.le_refl _⟩, ⟨wB⟩⟩
    · rw [if_neg c1001] at H
      have c1001b0 : ((a0.size : Int) == 0) = false := beq_eq_false_iff_ne.mpr c1001
      have c1001b1 : ((a0.size : Int) != 0) = true := bne_iff_ne.mpr c1001
      (first | rw [c1001b0] | (simp only [i64_w, i32_w]; rw [c1001b0]) | skip)
      by_cases c1002 : (a0.size : Int) > a1
      · rw [if_pos c1002] at H
        have c1002b0 : decide (a1 < (a0.size : Int)) = true := decide_eq_true c1002
        clear c1002
        have H' := Aside0.mk H
        clear H
        go_wp2
        all_goals (try (rename_i h_; exfalso; cases h_; done))
        all_goals (try (rename_i h_ h2_; exfalso; cases h_; done))
        go_meet
        case rel => exact ⟨_, (true), (by first | rfl | (simp; done) | (simp [*]; done)), H', ⟨by first | omega | exact Nat.le_refl _⟩, ⟨wB⟩⟩
      · rw [if_neg c1002] at H
        have c1002b0 : decide (a1 < (a0.size : Int)) = false := decide_eq_false c1002
        clear c1002
        by_cases c1003 : (a0.size : Int) > 1
        · rw [if_pos c1003] at H
          have c1003b0 : decide (1 < (a0.size : Int)) = true := decide_eq_true c1003
          have c1003b1 : decide (1 < a0.size) = true := decide_eq_true (by omega)
          clear c1003
          by_cases c1004 : 0 < (a0.size : Int)
          · rw [if_pos c1004] at H
            have c1004b0 : decide (0 < (a0.size : Int)) = true := decide_eq_true c1004
            have c1004b1 : decide (0 < a0.size) = true := decide_eq_true (by omega)
            clear c1004
            have H' := Aside0.mk H
            clear H
            have p1005 : 0 ≤ (0 : Int) := (by omega)
            have q1005 : 0 < a0.size := (by have : (0 : Int) < (a0.size : Int) := of_decide_eq_true (by first | (with_reducible assumption) | assumption); omega)
            have hx1005 : ∀ h : 0 < a0.size, ((a0[0]'h).toNat : Int) = bt a0 0 := bt_at a0 0
            clear p1005
            have qi1005 : (0 < (a0.size : Int)) = True := eq_true (of_decide_eq_true (by first | (with_reducible assumption) | assumption))
            replace q1005 := eq_true q1005
            go_wp2
            all_goals (try (rename_i h_; exfalso; cases h_; done))
            all_goals (try (rename_i h_ h2_; exfalso; cases h_; done))
            go_meet
            case rel => exact ⟨_, (((bt a0 0) == 48)), (by first | rfl | (simp; done) | (simp [*]; done)), H', ⟨by first | omega | exact Nat.le_refl _⟩, ⟨wB⟩⟩
          · rw [if_neg c1004] at H
            exact absurd H (by simp)
        · rw [if_neg c1003] at H
          have c1003b0 : decide (1 < (a0.size : Int)) = false := decide_eq_false c1003
          have c1003b1 : decide (1 < a0.size) = false := decide_eq_false (by omega)
          clear c1003
          have H' := Aside0.mk H
          clear H
          go_wp2
          all_goals (try (rename_i h_; exfalso; cases h_; done))
          all_goals (try (rename_i h_ h2_; exfalso; cases h_; done))
          go_meet
          case rel => exact ⟨_, (false), (by first | rfl | (simp; done) | (simp [*]; done)), H', ⟨by first | omega | exact Nat.le_refl _⟩, ⟨wB⟩⟩
  case rest =>
    clear HC3
    try clear c1001
    try clear c1001b0
    try clear c1001b1
    try clear c1002
    try clear c1002b0
    try clear c1003
    try clear c1003b0
    try clear c1003b1
    try clear c1004
    try clear c1004b0
    try clear c1004b1
    try clear p1005
    try clear q1005
    try clear hx1005
    try clear qi1005
    try clear p1005
    try clear q1005
    obtain ⟨kq, x27_2, rfl, HA, HJ2, HB⟩ := hcut
    cases kq with
    | zero => exact absurd HA.out (by simp [impl_decimal.j0])
    | succ kj2 =>
      have H := HA.out
      clear HA
      simp only [impl_decimal.j0] at H
      by_cases c1006 : x27_2 = true
      · subst c1006
        have H1 : (some (0, false)) = some (r1, r2) := by rw [if_pos rfl] at H; exact H
        clear H
        have H := H1
        clear H1
        simp only [Option.some.injEq, Prod.mk.injEq] at H
        obtain ⟨rfl, rfl⟩ := H
        go_wp2
        all_goals (try (rename_i h_; exfalso; cases h_; done))
        all_goals (try (rename_i h_ h2_; exfalso; cases h_; done))
        go_ret2
        exact ⟨by first | rfl | (simp [errW_none, errW_some] <;> rfl) | (simp [*, errW_none, errW_some] <;> rfl), wB⟩
      · replace c1006 := Bool.eq_false_iff.mpr c1006
        subst c1006
        have H1 : (if a0.size ≤ 9223372036854775807 then ((some (bytesOf a0 : List Int)).bind fun y101 => (impl_decimal.l0 kj2 0 y101 (y101.length : Int) 0)) else (none)) = some (r1, r2) := by rw [if_neg (show ¬ (false = true) by decide)] at H; exact H
        clear H
        have H := H1
        clear H1
        by_cases c1007 : a0.size ≤ 9223372036854775807
        · rw [if_pos c1007] at H
          have LMc1007 := Aside0.mk c1007
          clear c1007
          obtain ⟨y101, hy101⟩ : ∃ y_ : List Int, y_ = (bytesOf a0) := ⟨_, rfl⟩
          replace H : (impl_decimal.l0 kj2 0 y101 (y101.length : Int) 0) = some (r1, r2) := by first | (rw [hy101]; with_reducible exact H) | (have H2_ := (Option.bind_some _ _).symm.trans H; rw [hy101]; with_reducible exact H2_) | (have H2_ := (Option.bind_some _ _).symm.trans H; with_reducible exact H2_) | with_reducible exact H | (rw [hy101]; exact H) | exact H
          have Ny101 := Aside0.mk hy101
          clear hy101
          have H' := Aside0.mk H
          clear H
          go_wp2_with (first | ((with_reducible refine gate_dst (N := 29) rfl ?_); (try (refine gate_guard (by rfl) ?_; dsimp only)); refine C_conv 5 rfl 9 22 _ rfl a0 rfl Tryd.underlying9 Tryd.underlying22 Tryd.underlying5 y101 Ny101.out LMc1007.out ?_; intro adc105 ccv106 w2001 hC hl hb; have n0_ := Aside0.mk (below_step wB hb); clear HB; have HB := n0_; clear n0_; have HRv104 := Aside0.mk hC; have HCv104 := Aside0.mk hl; clear hb hC hl))
          all_goals (try (rename_i h_; exfalso; cases h_; done))
          all_goals (try (rename_i h_ h2_; exfalso; cases h_; done))
          go_loopg [6, 31] kj2 (fun kq v6 v31 w' => ∃ (x6_2 : Int) (x31_2 : Int), v6 = .int .i64 x6_2 ∧ v31 = .int .i64 x31_2 ∧ Aside0 (impl_decimal.l0 kq x6_2 y101 (y101.length : Int) x31_2 = some (r1, r2)) ∧ Aside0 (kq ≤ kj2) ∧ Aside0 (Kd.C (Kd.int .u8) w' (some adc105) y101.length y101) ∧ Aside0 (Below w.heap.size w w'))
          case atStart => exact ⟨(0), (0), (by first | rfl | (simp; done) | (simp [*]; done)), (by first | rfl | (simp; done) | (simp [*]; done)), H', ⟨Nat.le_refl _⟩, ⟨by repeat (first | (with_reducible exact HRv104.out) | (with_reducible refine Kd.C_alloc ?_ _) | (with_reducible refine Kd.C_drewN ?_ _) | (with_reducible refine Kd.C_drew ?_) | exact HRv104.out)⟩, ⟨wB⟩⟩
          case round =>
            clear H'
            try clear c1001
            try clear c1001b0
            try clear c1001b1
            try clear c1002
            try clear c1002b0
            try clear c1003
            try clear c1003b0
            try clear c1003b1
            try clear c1004
            try clear c1004b0
            try clear c1004b1
            try clear p1005
            try clear q1005
            try clear hx1005
            try clear qi1005
            try clear c1006
            try clear c1007
            try clear p1005
            try clear q1005
            obtain ⟨x6_2, x31_2, rfl, rfl, HA, HK2, HRv104, HB⟩ := hrel
            cases gk with
            | zero => exact absurd HA.out (by simp [impl_decimal.l0])
            | succ k2 =>
              have H := HA.out
              clear HA
              simp only [impl_decimal.l0] at H
              by_cases c2002 : x31_2 < (y101.length : Int)
              · rw [if_pos c2002] at H
                have c2002b0 : decide (x31_2 < (y101.length : Int)) = true := decide_eq_true c2002
                clear c2002
                by_cases c2003 : 0 ≤ x31_2
                · rw [if_pos c2003] at H
                  have c2003b0 : decide (0 ≤ x31_2) = true := decide_eq_true c2003
                  clear c2003
                  by_cases c2004 : x31_2 < (y101.length : Int)
                  · rw [if_pos c2004] at H
                    have c2004b0 : decide (x31_2 < (y101.length : Int)) = true := decide_eq_true c2004
                    clear c2004
                    by_cases c2005 : (rd y101 x31_2) < 48
                    · rw [if_pos c2005] at H
                      have c2005b0 : decide ((rd y101 x31_2) < 48) = true := decide_eq_true c2005
                      clear c2005
                      simp only [Option.some.injEq, Prod.mk.injEq] at H
                      obtain ⟨rfl, rfl⟩ := H
                      have p107 : 0 ≤ (x31_2 : Int) := of_decide_eq_true (by first | (with_reducible assumption) | assumption)
                      have q107 : x31_2 < (y101.length : Int) := of_decide_eq_true (by first | (with_reducible assumption) | assumption)
                      obtain ⟨ad107, e107, hx107_0⟩ := Kd.at_int (by repeat (first | (with_reducible exact HRv104.out) | (with_reducible refine Kd.C_alloc ?_ _) | (with_reducible refine Kd.C_drewN ?_ _) | (with_reducible refine Kd.C_drew ?_) | exact HRv104.out)) x31_2 p107 q107
                      obtain rfl : adc105 = ad107 := (by injection e107)
                      replace p107 := eq_true p107
                      replace q107 := eq_true q107
                      go_wp2
                      all_goals (try (rename_i h_; exfalso; cases h_; done))
                      all_goals (try (rename_i h_ h2_; exfalso; cases h_; done))
                      go_ret2
                      exact ⟨by first | rfl | (simp [errW_none, errW_some] <;> rfl) | (simp [*, errW_none, errW_some] <;> rfl), wB⟩
                    · rw [if_neg c2005] at H
                      have c2005b0 : decide ((rd y101 x31_2) < 48) = false := decide_eq_false c2005
                      clear c2005
                      by_cases c2006 : (rd y101 x31_2) > 57
                      · rw [if_pos c2006] at H
                        have c2006b0 : decide (57 < (rd y101 x31_2)) = true := decide_eq_true c2006
                        clear c2006
                        simp only [Option.some.injEq, Prod.mk.injEq] at H
                        obtain ⟨rfl, rfl⟩ := H
                        have p107 : 0 ≤ (x31_2 : Int) := of_decide_eq_true (by first | (with_reducible assumption) | assumption)
                        have q107 : x31_2 < (y101.length : Int) := of_decide_eq_true (by first | (with_reducible assumption) | assumption)
                        obtain ⟨ad107, e107, hx107_0⟩ := Kd.at_int (by repeat (first | (with_reducible exact HRv104.out) | (with_reducible refine Kd.C_alloc ?_ _) | (with_reducible refine Kd.C_drewN ?_ _) | (with_reducible refine Kd.C_drew ?_) | exact HRv104.out)) x31_2 p107 q107
                        obtain rfl : adc105 = ad107 := (by injection e107)
                        replace p107 := eq_true p107
                        replace q107 := eq_true q107
                        go_wp2
                        all_goals (try (rename_i h_; exfalso; cases h_; done))
                        all_goals (try (rename_i h_ h2_; exfalso; cases h_; done))
                        go_ret2
                        exact ⟨by first | rfl | (simp [errW_none, errW_some] <;> rfl) | (simp [*, errW_none, errW_some] <;> rfl), wB⟩
                      · rw [if_neg c2006] at H
                        have c2006b0 : decide (57 < (rd y101 x31_2)) = false := decide_eq_false c2006
                        clear c2006
                        have H' := Aside0.mk H
                        clear H
                        have p107 : 0 ≤ (x31_2 : Int) := of_decide_eq_true (by first | (with_reducible assumption) | assumption)
                        have q107 : x31_2 < (y101.length : Int) := of_decide_eq_true (by first | (with_reducible assumption) | assumption)
                        obtain ⟨ad107, e107, hx107_0⟩ := Kd.at_int (by repeat (first | (with_reducible exact HRv104.out) | (with_reducible refine Kd.C_alloc ?_ _) | (with_reducible refine Kd.C_drewN ?_ _) | (with_reducible refine Kd.C_drew ?_) | exact HRv104.out)) x31_2 p107 q107
                        obtain rfl : adc105 = ad107 := (by injection e107)
                        replace p107 := eq_true p107
                        replace q107 := eq_true q107
                        go_wp2
                        all_goals (try (rename_i h_; exfalso; cases h_; done))
                        all_goals (try (rename_i h_ h2_; exfalso; cases h_; done))
                        go_roundg k2
                        case measure => have := HJ2.out; have := HK2.out; omega
                        case rel => exact ⟨(wrap64 ((wrap64 (x6_2 * 10)) + (((rd y101 x31_2) - 48) % 256))), (wrap64 (x31_2 + 1)), (by first | rfl | (simp; done) | (simp [*]; done)), (by first | rfl | (simp; done) | (simp [*]; done)), H', ⟨by have := HJ2.out; have := HK2.out; omega⟩, ⟨by repeat (first | (with_reducible exact HRv104.out) | (with_reducible refine Kd.C_alloc ?_ _) | (with_reducible refine Kd.C_drewN ?_ _) | (with_reducible refine Kd.C_drew ?_) | exact HRv104.out)⟩, ⟨wB⟩⟩
                  · rw [if_neg c2004] at H
                    exact absurd H (by simp)
                · rw [if_neg c2003] at H
                  exact absurd H (by simp)
              · rw [if_neg c2002] at H
                have c2002b0 : decide (x31_2 < (y101.length : Int)) = false := decide_eq_false c2002
                clear c2002
                simp only [Option.some.injEq, Prod.mk.injEq] at H
                obtain ⟨rfl, rfl⟩ := H
                go_wp2
                all_goals (try (rename_i h_; exfalso; cases h_; done))
                all_goals (try (rename_i h_ h2_; exfalso; cases h_; done))
                go_ret2
                exact ⟨by first | rfl | (simp [errW_none, errW_some] <;> rfl) | (simp [*, errW_none, errW_some] <;> rfl), wB⟩
        · rw [if_neg c1007] at H
          exact absurd H (by simp)

/-! ### impl_ReadAddr: function 14 -/
def impl_ReadAddr.l0 : Nat → List ByteArray → Int → Int → Int → Option (Int × Int)
  | 0, _, _, _, _ => none
  | k + 1, x4, x5, x16, x17 => if x17 < x16 then (if 0 ≤ x17 then (if x17 < (x4.length : Int) then ((impl_decimal.f k (rdOf ByteArray.empty x4 x17) 3).bind fun bt112 => (if bt112.2 = true then (if bt112.1 > 255 then (some (0, 6)) else (impl_ReadAddr.l0 k x4 (Go.bits .or .i64 (wrap64 (x5 * 256)) bt112.1) x16 (wrap64 (x17 + 1)))) else (some (0, 6)))) else (none)) else (none)) else (some (x5, 0))
def impl_ReadAddr.f (k : Nat) (a0 : ByteArray) : Option (Int × Int) := (strings_Split.f a0 (⟨#[46]⟩ : ByteArray)).bind fun t108 => (if (t108.length : Int) = 4 then (impl_ReadAddr.l0 k t108 0 (t108.length : Int) 0) else (some (0, 6)))
theorem impl_ReadAddr.mono_l : ∀ k, (∀ y0 y1 y2 y3, LeO (impl_ReadAddr.l0 k y0 y1 y2 y3) (impl_ReadAddr.l0 (k + 1) y0 y1 y2 y3))
  | 0 => fun _ _ _ _ r h => by simp [impl_ReadAddr.l0] at h
  | k + 1 => by
    have ih0 := impl_ReadAddr.mono_l k
    · intro y0 y1 y2 y3
      unfold impl_ReadAddr.l0
      repeat' first
      | (with_reducible exact ih0 _ _ _ _)
      | (with_reducible exact impl_decimal.mono _ _ _)
      | (with_reducible exact LeO.refl _)
      | (with_reducible exact LeO.none _)
      | (with_reducible refine LeO.ite ?_ ?_)
      | (with_reducible refine LeO.bind ?_ (fun _ => ?_))
      | exact ih0 _ _ _ _
      | exact impl_decimal.mono _ _ _
      | exact LeO.none _
      | refine LeO.ite ?_ ?_
      | refine LeO.bind ?_ (fun _ => ?_)
theorem impl_ReadAddr.mono : ∀ a0 k, LeO (impl_ReadAddr.f k a0) (impl_ReadAddr.f (k + 1) a0) := by
  intro a0 k
  have ih0 := impl_ReadAddr.mono_l k
  unfold impl_ReadAddr.f
  repeat' first
      | (with_reducible exact ih0 _ _ _ _)
      | (with_reducible exact impl_decimal.mono _ _ _)
      | (with_reducible exact LeO.refl _)
      | (with_reducible exact LeO.none _)
      | (with_reducible refine LeO.ite ?_ ?_)
      | (with_reducible refine LeO.bind ?_ (fun _ => ?_))
      | exact ih0 _ _ _ _
      | exact impl_decimal.mono _ _ _
      | exact LeO.none _
      | refine LeO.ite ?_ ?_
      | refine LeO.bind ?_ (fun _ => ?_)
set_option maxHeartbeats 60000000 in
set_option maxRecDepth 100000 in
theorem impl_ReadAddr.calls (k : Nat) (a0 : ByteArray) (r1 : Int) (r2 : Int) (w : World) (hd : Door w) (h : impl_ReadAddr.f k a0 = some (r1, r2)) :
    Calls Tryd.prog 14 #[.string a0] w fun e w' => e = .returned (.tuple #[.int .i64 r1, .int .i64 r2]) ∧ Below w.heap.size w w' := by
  have HD := Aside0.mk hd
  clear hd
  have HB := Aside0.mk (Below.refl w.heap.size w)
  have H : ((strings_Split.f a0 (⟨#[46]⟩ : ByteArray)).bind fun t108 => (if (t108.length : Int) = 4 then (impl_ReadAddr.l0 k t108 0 (t108.length : Int) 0) else (some (0, 6)))) = some (r1, r2) := h
  clear h
  replace H := Option.bind_eq_some_iff.mp H
  obtain ⟨t108, A20, H⟩ := H
  replace H : (if (t108.length : Int) = 4 then (impl_ReadAddr.l0 k t108 0 (t108.length : Int) 0) else (some (0, 6))) = some (r1, r2) := H
  have A2 := Aside0.mk A20
  clear A20
  by_cases c3 : (t108.length : Int) = 4
  · rw [if_pos c3] at H
    have c3b0 : ((t108.length : Int) == 4) = true := beq_iff_eq.mpr c3
    have c3b1 : ((t108.length : Int) != 4) = false := bne_eq_false_iff_eq.mpr c3
    clear c3
    have H' := Aside0.mk H
    clear H
    go_enter Tryd.func14, Tryd.ntmps14
    go_wp2_with (first | ((with_reducible refine gate_callee (f := 36) rfl ?_); refine goesL_ (some 11) rfl rfl Tryd.func36 (by kernel_rfl) rfl #[.string a0, .string (⟨#[46]⟩ : ByteArray)] rfl wT ?_; (with_reducible refine (strings_Split.calls a0 (⟨#[46]⟩ : ByteArray) t108 _ ?side1 A2.out).mono ?_); (case side1 => repeat (first | exact HD.out | (with_reducible refine Door.c_alloc ?_ _) | (with_reducible refine Door.c_drewN ?_ _) | (with_reducible refine Door.c_drew ?_))); rintro e w1001 ⟨v109, rfl, ho0, hb⟩; refine ⟨_, rfl, ?_⟩; have n0_ := Aside0.mk (Kd.R_lower ho0 (below_size wB)); have n1_ := Aside0.mk (below_step wB hb); clear HB; have HO110 := n0_; have HB := n1_; clear n0_ n1_; (try clear hb); (try clear hb2); (try clear hk); (try clear hi); (try clear ho0); obtain ⟨Ao1002, co1002, eo1002⟩ := Kd.R_slice HO110.out; subst eo1002))
    go_loopg [5, 17] k (fun kq v5 v17 w' => ∃ (x5_1 : Int) (x17_1 : Int), v5 = .int .i64 x5_1 ∧ v17 = .int .i64 x17_1 ∧ Aside0 (impl_ReadAddr.l0 kq t108 x5_1 (t108.length : Int) x17_1 = some (r1, r2)) ∧ Aside0 (kq ≤ k) ∧ Aside0 (Kd.R Kd.string 9 w' w.heap.size (fun _ => True) (.slice Ao1002 t108.length co1002) t108) ∧ Aside0 (Below w.heap.size w w'))
    case atStart => exact ⟨(0), (0), (by first | rfl | (simp; done) | (simp [*]; done)), (by first | rfl | (simp; done) | (simp [*]; done)), H', ⟨Nat.le_refl _⟩, ⟨Rh HO110⟩, ⟨wB⟩⟩
    case round =>
      clear H'
      try clear c3
      try clear c3b0
      try clear c3b1
      obtain ⟨x5_1, x17_1, rfl, rfl, HA, HK1, HO_4, HB⟩ := hrel
      cases gk with
      | zero => exact absurd HA.out (by simp [impl_ReadAddr.l0])
      | succ k1 =>
        have H := HA.out
        clear HA
        simp only [impl_ReadAddr.l0] at H
        by_cases c1003 : x17_1 < (t108.length : Int)
        · rw [if_pos c1003] at H
          have c1003b0 : decide (x17_1 < (t108.length : Int)) = true := decide_eq_true c1003
          clear c1003
          by_cases c1004 : 0 ≤ x17_1
          · rw [if_pos c1004] at H
            have c1004b0 : decide (0 ≤ x17_1) = true := decide_eq_true c1004
            clear c1004
            by_cases c1005 : x17_1 < (t108.length : Int)
            · rw [if_pos c1005] at H
              have c1005b0 : decide (x17_1 < (t108.length : Int)) = true := decide_eq_true c1005
              clear c1005
              replace H := Option.bind_eq_some_iff.mp H
              obtain ⟨⟨t112, t113⟩, A10060, H⟩ := H
              replace H : (if t113 = true then (if t112 > 255 then (some (0, 6)) else (impl_ReadAddr.l0 k1 t108 (Go.bits .or .i64 (wrap64 (x5_1 * 256)) t112) (t108.length : Int) (wrap64 (x17_1 + 1)))) else (some (0, 6))) = some (r1, r2) := H
              have A1006 := Aside0.mk A10060
              clear A10060
              by_cases c1007 : t113 = true
              · subst c1007
                have H1 : (if t112 > 255 then (some (0, 6)) else (impl_ReadAddr.l0 k1 t108 (Go.bits .or .i64 (wrap64 (x5_1 * 256)) t112) (t108.length : Int) (wrap64 (x17_1 + 1)))) = some (r1, r2) := by rw [if_pos rfl] at H; exact H
                clear H
                have H := H1
                clear H1
                by_cases c1008 : t112 > 255
                · rw [if_pos c1008] at H
                  have c1008b0 : decide (255 < t112) = true := decide_eq_true c1008
                  clear c1008
                  simp only [Option.some.injEq, Prod.mk.injEq] at H
                  obtain ⟨rfl, rfl⟩ := H
                  have p111 : 0 ≤ (x17_1 : Int) := of_decide_eq_true (by first | (with_reducible assumption) | assumption)
                  have q111 : x17_1 < (t108.length : Int) := of_decide_eq_true (by first | (with_reducible assumption) | assumption)
                  obtain ⟨ad111, e111, hx111_0⟩ := Kd.at_string (Kd.R_reads' HO_4.out).2.2 x17_1 p111 q111
                  cases e111
                  replace p111 := eq_true p111
                  replace q111 := eq_true q111
                  (try clear HO_4)
                  go_wp2_with (first | ((with_reducible refine gate_callee (f := 37) rfl ?_); refine goesL_ (some 23) rfl rfl Tryd.func37 (by kernel_rfl) rfl #[.string (rdOf ByteArray.empty t108 x17_1), .int .i64 3] rfl wT ?_; (with_reducible refine (impl_decimal.calls k1 (rdOf ByteArray.empty t108 x17_1) 3 t112 true _ A1006.out).mono ?_); rintro e w2001 ⟨rfl, hb⟩; refine ⟨_, rfl, ?_⟩; have n0_ := Aside0.mk (below_step wB hb); clear HB; have HB := n0_; clear n0_; (try clear hb); (try clear hb2); (try clear hk); (try clear hi)))
                  go_ret2
                  exact ⟨by first | rfl | (simp [errW_none, errW_some] <;> rfl) | (simp [*, errW_none, errW_some] <;> rfl), wB⟩
                · rw [if_neg c1008] at H
                  have c1008b0 : decide (255 < t112) = false := decide_eq_false c1008
                  clear c1008
                  have H' := Aside0.mk H
                  clear H
                  have p111 : 0 ≤ (x17_1 : Int) := of_decide_eq_true (by first | (with_reducible assumption) | assumption)
                  have q111 : x17_1 < (t108.length : Int) := of_decide_eq_true (by first | (with_reducible assumption) | assumption)
                  obtain ⟨ad111, e111, hx111_0⟩ := Kd.at_string (Kd.R_reads' HO_4.out).2.2 x17_1 p111 q111
                  cases e111
                  replace p111 := eq_true p111
                  replace q111 := eq_true q111
                  go_wp2_with (first | ((with_reducible refine gate_callee (f := 37) rfl ?_); refine goesL_ (some 23) rfl rfl Tryd.func37 (by kernel_rfl) rfl #[.string (rdOf ByteArray.empty t108 x17_1), .int .i64 3] rfl wT ?_; (with_reducible refine (impl_decimal.calls k1 (rdOf ByteArray.empty t108 x17_1) 3 t112 true _ A1006.out).mono ?_); rintro e w2001 ⟨rfl, hb⟩; refine ⟨_, rfl, ?_⟩; have n0_ := Aside0.mk (Kd.R_below (Rh HO_4) hb); have n1_ := Aside0.mk (below_step wB hb); clear HO_4; clear HB; have HO_4 := n0_; have HB := n1_; clear n0_ n1_; (try clear hb); (try clear hb2); (try clear hk); (try clear hi)))
                  go_roundg k1
                  case measure => have := HK1.out; omega
                  case rel => exact ⟨(Go.bits .or .i64 (wrap64 (x5_1 * 256)) t112), (wrap64 (x17_1 + 1)), (by first | rfl | (simp; done) | (simp [*]; done)), (by first | rfl | (simp; done) | (simp [*]; done)), H', ⟨by have := HK1.out; omega⟩, ⟨Rh HO_4⟩, ⟨wB⟩⟩
              · replace c1007 := Bool.eq_false_iff.mpr c1007
                subst c1007
                have H1 : (some (0, 6)) = some (r1, r2) := by rw [if_neg (show ¬ (false = true) by decide)] at H; exact H
                clear H
                have H := H1
                clear H1
                simp only [Option.some.injEq, Prod.mk.injEq] at H
                obtain ⟨rfl, rfl⟩ := H
                have p111 : 0 ≤ (x17_1 : Int) := of_decide_eq_true (by first | (with_reducible assumption) | assumption)
                have q111 : x17_1 < (t108.length : Int) := of_decide_eq_true (by first | (with_reducible assumption) | assumption)
                obtain ⟨ad111, e111, hx111_0⟩ := Kd.at_string (Kd.R_reads' HO_4.out).2.2 x17_1 p111 q111
                cases e111
                replace p111 := eq_true p111
                replace q111 := eq_true q111
                (try clear HO_4)
                go_wp2_with (first | ((with_reducible refine gate_callee (f := 37) rfl ?_); refine goesL_ (some 23) rfl rfl Tryd.func37 (by kernel_rfl) rfl #[.string (rdOf ByteArray.empty t108 x17_1), .int .i64 3] rfl wT ?_; (with_reducible refine (impl_decimal.calls k1 (rdOf ByteArray.empty t108 x17_1) 3 t112 false _ A1006.out).mono ?_); rintro e w2001 ⟨rfl, hb⟩; refine ⟨_, rfl, ?_⟩; have n0_ := Aside0.mk (below_step wB hb); clear HB; have HB := n0_; clear n0_; (try clear hb); (try clear hb2); (try clear hk); (try clear hi)))
                go_ret2
                exact ⟨by first | rfl | (simp [errW_none, errW_some] <;> rfl) | (simp [*, errW_none, errW_some] <;> rfl), wB⟩
            · rw [if_neg c1005] at H
              exact absurd H (by simp)
          · rw [if_neg c1004] at H
            exact absurd H (by simp)
        · rw [if_neg c1003] at H
          have c1003b0 : decide (x17_1 < (t108.length : Int)) = false := decide_eq_false c1003
          clear c1003
          simp only [Option.some.injEq, Prod.mk.injEq] at H
          obtain ⟨rfl, rfl⟩ := H
          go_wp2
          go_ret2
          exact ⟨by first | rfl | (simp [errW_none, errW_some] <;> rfl) | (simp [*, errW_none, errW_some] <;> rfl), wB⟩
  · rw [if_neg c3] at H
    have c3b0 : ((t108.length : Int) == 4) = false := beq_eq_false_iff_ne.mpr c3
    have c3b1 : ((t108.length : Int) != 4) = true := bne_iff_ne.mpr c3
    simp only [Option.some.injEq, Prod.mk.injEq] at H
    obtain ⟨rfl, rfl⟩ := H
    go_enter Tryd.func14, Tryd.ntmps14
    go_wp2_with (first | ((with_reducible refine gate_callee (f := 36) rfl ?_); refine goesL_ (some 11) rfl rfl Tryd.func36 (by kernel_rfl) rfl #[.string a0, .string (⟨#[46]⟩ : ByteArray)] rfl wT ?_; (with_reducible refine (strings_Split.calls a0 (⟨#[46]⟩ : ByteArray) t108 _ ?side1 A2.out).mono ?_); (case side1 => repeat (first | exact HD.out | (with_reducible refine Door.c_alloc ?_ _) | (with_reducible refine Door.c_drewN ?_ _) | (with_reducible refine Door.c_drew ?_))); rintro e w1001 ⟨v109, rfl, ho0, hb⟩; refine ⟨_, rfl, ?_⟩; have n0_ := Aside0.mk (Kd.R_lower ho0 (below_size wB)); have n1_ := Aside0.mk (below_step wB hb); clear HB; have HO110 := n0_; have HB := n1_; clear n0_ n1_; (try clear hb); (try clear hb2); (try clear hk); (try clear hi); (try clear ho0); obtain ⟨Ao1002, co1002, eo1002⟩ := Kd.R_slice HO110.out; subst eo1002))
    go_ret2
    exact ⟨by first | rfl | (simp [errW_none, errW_some] <;> rfl) | (simp [*, errW_none, errW_some] <;> rfl), wB⟩

/-! ### spec_l02Cut: function 43 -/
def spec_l02Cut.l0 : Nat → ByteArray → Int → List ByteArray → Int → Int → Option (List ByteArray)
  | 0, _, _, _, _, _ => none
  | k + 1, x0, x1, x5, x6, x7 => if x7 < (x0.size : Int) then (if 0 ≤ x7 then (if (bt x0 x7) = x1 then (if 0 ≤ x6 then (if x6 ≤ x7 then (if x7 ≤ (x0.size : Int) then (if x5.length < 8796093022208 then (spec_l02Cut.l0 k x0 x1 (x5 ++ [x0.extract (x6 : Int).toNat (x7 : Int).toNat]) (wrap64 (x7 + 1)) (wrap64 (x7 + 1))) else (none)) else (none)) else (none)) else (none)) else (spec_l02Cut.l0 k x0 x1 x5 x6 (wrap64 (x7 + 1)))) else (none)) else (if 0 ≤ x6 then (if x6 ≤ (x0.size : Int) then (if x5.length < 8796093022208 then (some (x5 ++ [x0.extract (x6 : Int).toNat x0.size])) else (none)) else (none)) else (none))
def spec_l02Cut.f (k : Nat) (a0 : ByteArray) (a1 : Int) : Option (List ByteArray) := spec_l02Cut.l0 k a0 a1 (([] : List ByteArray)) 0 0
theorem spec_l02Cut.mono_l : ∀ k, (∀ y0 y1 y2 y3 y4, LeO (spec_l02Cut.l0 k y0 y1 y2 y3 y4) (spec_l02Cut.l0 (k + 1) y0 y1 y2 y3 y4))
  | 0 => fun _ _ _ _ _ r h => by simp [spec_l02Cut.l0] at h
  | k + 1 => by
    have ih0 := spec_l02Cut.mono_l k
    · intro y0 y1 y2 y3 y4
      unfold spec_l02Cut.l0
      repeat' first
      | (with_reducible exact ih0 _ _ _ _ _)
      | (with_reducible exact LeO.refl _)
      | (with_reducible exact LeO.none _)
      | (with_reducible refine LeO.ite ?_ ?_)
      | (with_reducible refine LeO.bind ?_ (fun _ => ?_))
      | exact ih0 _ _ _ _ _
      | exact LeO.none _
      | refine LeO.ite ?_ ?_
      | refine LeO.bind ?_ (fun _ => ?_)
theorem spec_l02Cut.mono : ∀ a0 a1 k, LeO (spec_l02Cut.f k a0 a1) (spec_l02Cut.f (k + 1) a0 a1) := by
  intro a0 a1 k
  have ih0 := spec_l02Cut.mono_l k
  unfold spec_l02Cut.f
  repeat' first
      | (with_reducible exact ih0 _ _ _ _ _)
      | (with_reducible exact LeO.refl _)
      | (with_reducible exact LeO.none _)
      | (with_reducible refine LeO.ite ?_ ?_)
      | (with_reducible refine LeO.bind ?_ (fun _ => ?_))
      | exact ih0 _ _ _ _ _
      | exact LeO.none _
      | refine LeO.ite ?_ ?_
      | refine LeO.bind ?_ (fun _ => ?_)
set_option maxHeartbeats 60000000 in
set_option maxRecDepth 100000 in
theorem spec_l02Cut.calls (k : Nat) (a0 : ByteArray) (a1 : Int) (r : List ByteArray) (w : World) (h : spec_l02Cut.f k a0 a1 = some r) :
    Calls Tryd.prog 43 #[.string a0, .int .u8 a1] w fun e w' => ∃ v0_ : Value, e = .returned (v0_) ∧ Kd.R Kd.string 9 w' w.heap.size (fun _ => True) v0_ r ∧ Below w.heap.size w w' := by
  have HB := Aside0.mk (Below.refl w.heap.size w)
  have H : (spec_l02Cut.l0 k a0 a1 (([] : List ByteArray)) 0 0) = some r := h
  clear h
  obtain ⟨y114, hy114⟩ : ∃ y_ : List ByteArray, y_ = (([] : List ByteArray)) := ⟨_, rfl⟩
  replace H : (spec_l02Cut.l0 k a0 a1 y114 0 0) = some r := by first | (rw [hy114]; with_reducible exact H) | (have H2_ := (Option.bind_some _ _).symm.trans H; rw [hy114]; with_reducible exact H2_) | (have H2_ := (Option.bind_some _ _).symm.trans H; with_reducible exact H2_) | with_reducible exact H | (rw [hy114]; exact H) | exact H
  have Ny114 := Aside0.mk hy114
  clear hy114
  have H' := Aside0.mk H
  clear H
  go_enter Tryd.func43, Tryd.ntmps43
  go_wp2_with (first | ((with_reducible refine gate_dst (N := 8) rfl ?_); refine Kd.R_lit Kd.string _ 9 ?hg (N := 8) ?hd (xs := ([] : List ByteArray)) (inner := []) (ok := fun _ => True) (okp := fun _ => True) ?hr ?hp (fun _ hk => hk) trivial (Below.refl _ _) (Nat.le_refl _) (by simp) ?_; (case hd => rfl); (case hg => rfl); (case hr => first | (go_simp; done) | (go_simp; rfl)); (case hp => exact (Reps.none _ _)); intro v115 w1001 ho1002 hb hg_ hnew_; clear hg_ hnew_; (first | rw [← Ny114.out] at ho1002 | (simp only [Int.reduceToNat] at ho1002; rw [← Ny114.out] at ho1002)); have n0_ := Aside0.mk (Kd.R_lower ho1002 (below_size wB)); have n1_ := Aside0.mk (below_step wB hb); clear HB; have HO116 := n0_; have HB := n1_; clear n0_ n1_; clear hb ho1002))
  go_loopg [5, 6, 7] k (fun kq v5 v6 v7 w' => ∃ (x5_1 : List ByteArray) (x6_1 : Int) (x7_1 : Int), v6 = .int .i64 x6_1 ∧ v7 = .int .i64 x7_1 ∧ Aside0 (spec_l02Cut.l0 kq a0 a1 x5_1 x6_1 x7_1 = some r) ∧ Aside0 (kq ≤ k) ∧ Aside0 (Kd.R Kd.string 9 w' w.heap.size (fun _ => True) v5 x5_1) ∧ Aside0 (Below w.heap.size w w'))
  case atStart => exact ⟨(y114), (0), (0), (by first | rfl | (simp; done) | (simp [*]; done)), (by first | rfl | (simp; done) | (simp [*]; done)), H', ⟨Nat.le_refl _⟩, ⟨Rh HO116⟩, ⟨wB⟩⟩
  case round =>
    clear H'
    obtain ⟨x5_1, x6_1, x7_1, rfl, rfl, HA, HK1, HO_5, HB⟩ := hrel
    cases gk with
    | zero => exact absurd HA.out (by simp [spec_l02Cut.l0])
    | succ k1 =>
      have H := HA.out
      clear HA
      simp only [spec_l02Cut.l0] at H
      by_cases c1003 : x7_1 < (a0.size : Int)
      · rw [if_pos c1003] at H
        have c1003b0 : decide (x7_1 < (a0.size : Int)) = true := decide_eq_true c1003
        clear c1003
        by_cases c1004 : 0 ≤ x7_1
        · rw [if_pos c1004] at H
          have c1004b0 : decide (0 ≤ x7_1) = true := decide_eq_true c1004
          clear c1004
          by_cases c1006 : (bt a0 x7_1) = a1
          · rw [if_pos c1006] at H
            have c1006b0 : ((bt a0 x7_1) == a1) = true := beq_iff_eq.mpr c1006
            have c1006b1 : ((bt a0 x7_1) != a1) = false := bne_eq_false_iff_eq.mpr c1006
            clear c1006
            by_cases c1007 : 0 ≤ x6_1
            · rw [if_pos c1007] at H
              have c1007b0 := eq_true c1007
              have c1007b1 : decide (0 ≤ x6_1) = true := decide_eq_true c1007
              clear c1007
              by_cases c1008 : x6_1 ≤ x7_1
              · rw [if_pos c1008] at H
                have c1008b0 := eq_true c1008
                have c1008b1 : decide (x6_1 ≤ x7_1) = true := decide_eq_true c1008
                clear c1008
                by_cases c1009 : x7_1 ≤ (a0.size : Int)
                · rw [if_pos c1009] at H
                  have c1009b0 := eq_true c1009
                  have c1009b1 : decide (x7_1 ≤ (a0.size : Int)) = true := decide_eq_true c1009
                  clear c1009
                  by_cases c1010 : x5_1.length < 8796093022208
                  · rw [if_pos c1010] at H
                    have LMc1010 := Aside0.mk c1010
                    clear c1010
                    obtain ⟨y117, hy117⟩ : ∃ y_ : List ByteArray, y_ = (x5_1 ++ [a0.extract (x6_1 : Int).toNat (x7_1 : Int).toNat]) := ⟨_, rfl⟩
                    replace H : (spec_l02Cut.l0 k1 a0 a1 y117 (wrap64 (x7_1 + 1)) (wrap64 (x7_1 + 1))) = some r := by first | (rw [hy117]; with_reducible exact H) | (have H2_ := (Option.bind_some _ _).symm.trans H; rw [hy117]; with_reducible exact H2_) | (have H2_ := (Option.bind_some _ _).symm.trans H; with_reducible exact H2_) | with_reducible exact H | (rw [hy117]; exact H) | exact H
                    have Ny117 := Aside0.mk hy117
                    clear hy117
                    have H' := Aside0.mk H
                    clear H
                    have p1005 : 0 ≤ (x7_1 : Int) := of_decide_eq_true (by first | (with_reducible assumption) | assumption)
                    have q1005 : x7_1 < (a0.size : Int) := of_decide_eq_true (by first | (with_reducible assumption) | assumption)
                    have hx1005 := bt_at a0 x7_1
                    replace p1005 := eq_true p1005
                    replace q1005 := eq_true q1005
                    go_wp2_with (first | ((with_reducible refine gate_builtin (b := .append) (xs := #[.tmp 20, .tmp 25]) rfl ?_); at_builtin; refine Kd.R_append Kd.string (w0 := w) w.heap.size rfl (.tmp 20) (.tmp 25) 54 9 (.string ⟨#[]⟩) 16 rfl Tryd.underlying54 info9 rfl (by decide) (by omega) u5 x5_1 (a0.extract (x6_1 : Int).toNat (x7_1 : Int).toNat) [.string (a0.extract (x6_1 : Int).toNat (x7_1 : Int).toNat)] (fun _ => True) (fun _ => False) rfl rfl ?aP (fun _ hk => hk.elim) ?aF ?aO ?aB ?aS ?aL ?_; (case aP => exact rfl); (case aB => exact wB); (case aF => exact (fun _ _ => trivial)); (case aO => exact (Rh HO_5)); (case aS => exact (below_size wB)); (case aL => have := LMc1010.out; omega); intro v118 w2001 ho hb hg hat; rw [← Ny117.out] at ho; have n0_ := Aside0.mk (hb); have n1_ := Aside0.mk (ho); clear HB; clear HO_5; have HB := n0_; have HO119 := n1_; clear n0_ n1_; clear ho hb hg hat))
                    go_roundg k1
                    case measure => have := HK1.out; omega
                    case rel => exact ⟨(y117), (wrap64 (x7_1 + 1)), (wrap64 (x7_1 + 1)), (by first | rfl | (simp; done) | (simp [*]; done)), (by first | rfl | (simp; done) | (simp [*]; done)), H', ⟨by have := HK1.out; omega⟩, ⟨Rh HO119⟩, ⟨wB⟩⟩
                  · rw [if_neg c1010] at H
                    exact absurd H (by simp)
                · rw [if_neg c1009] at H
                  exact absurd H (by simp)
              · rw [if_neg c1008] at H
                exact absurd H (by simp)
            · rw [if_neg c1007] at H
              exact absurd H (by simp)
          · rw [if_neg c1006] at H
            have c1006b0 : ((bt a0 x7_1) == a1) = false := beq_eq_false_iff_ne.mpr c1006
            have c1006b1 : ((bt a0 x7_1) != a1) = true := bne_iff_ne.mpr c1006
            have H' := Aside0.mk H
            clear H
            have p1005 : 0 ≤ (x7_1 : Int) := of_decide_eq_true (by first | (with_reducible assumption) | assumption)
            have q1005 : x7_1 < (a0.size : Int) := of_decide_eq_true (by first | (with_reducible assumption) | assumption)
            have hx1005 := bt_at a0 x7_1
            replace p1005 := eq_true p1005
            replace q1005 := eq_true q1005
            go_wp2
            go_roundg k1
            case measure => have := HK1.out; omega
            case rel => exact ⟨(x5_1), (x6_1), (wrap64 (x7_1 + 1)), (by first | rfl | (simp; done) | (simp [*]; done)), (by first | rfl | (simp; done) | (simp [*]; done)), H', ⟨by have := HK1.out; omega⟩, ⟨Rh HO_5⟩, ⟨wB⟩⟩
        · rw [if_neg c1004] at H
          exact absurd H (by simp)
      · rw [if_neg c1003] at H
        have c1003b0 : decide (x7_1 < (a0.size : Int)) = false := decide_eq_false c1003
        clear c1003
        by_cases c1011 : 0 ≤ x6_1
        · rw [if_pos c1011] at H
          have c1011b0 := eq_true c1011
          have c1011b1 : decide (0 ≤ x6_1) = true := decide_eq_true c1011
          clear c1011
          by_cases c1012 : x6_1 ≤ (a0.size : Int)
          · rw [if_pos c1012] at H
            have c1012b0 := eq_true c1012
            have c1012b1 : decide (x6_1 ≤ (a0.size : Int)) = true := decide_eq_true c1012
            clear c1012
            by_cases c1013 : x5_1.length < 8796093022208
            · rw [if_pos c1013] at H
              have LMc1013 := Aside0.mk c1013
              clear c1013
              obtain ⟨y120, hy120⟩ : ∃ y_ : List ByteArray, y_ = (x5_1 ++ [a0.extract (x6_1 : Int).toNat a0.size]) := ⟨_, rfl⟩
              replace H : (some y120) = some r := by first | (rw [hy120]; with_reducible exact H) | (have H2_ := (Option.bind_some _ _).symm.trans H; rw [hy120]; with_reducible exact H2_) | (have H2_ := (Option.bind_some _ _).symm.trans H; with_reducible exact H2_) | with_reducible exact H | (rw [hy120]; exact H) | exact H
              have Ny120 := Aside0.mk hy120
              clear hy120
              obtain rfl := Option.some.inj H
              go_wp2_with (first | ((with_reducible refine gate_builtin (b := .append) (xs := #[.tmp 29, .tmp 33]) rfl ?_); at_builtin; refine Kd.R_append Kd.string (w0 := w) w.heap.size rfl (.tmp 29) (.tmp 33) 54 9 (.string ⟨#[]⟩) 16 rfl Tryd.underlying54 info9 rfl (by decide) (by omega) u5 x5_1 (a0.extract (x6_1 : Int).toNat a0.size) [.string (a0.extract (x6_1 : Int).toNat a0.size)] (fun _ => True) (fun _ => False) rfl rfl ?aP (fun _ hk => hk.elim) ?aF ?aO ?aB ?aS ?aL ?_; (case aP => exact rfl); (case aB => exact wB); (case aF => exact (fun _ _ => trivial)); (case aO => exact (Rh HO_5)); (case aS => exact (below_size wB)); (case aL => have := LMc1013.out; omega); intro v121 w2001 ho hb hg hat; rw [← Ny120.out] at ho; have n0_ := Aside0.mk (hb); have n1_ := Aside0.mk (ho); clear HB; clear HO_5; have HB := n0_; have HO122 := n1_; clear n0_ n1_; clear ho hb hg hat))
              go_ret
              exact ⟨_, by first | rfl | (simp [errW_none, errW_some] <;> rfl) | (simp [*, errW_none, errW_some] <;> rfl), by (with_reducible repeat (first | apply Kd.R_alloc | apply Kd.R_drewN | apply Kd.R_drew)); exact HO122.out, wB⟩
            · rw [if_neg c1013] at H
              exact absurd H (by simp)
          · rw [if_neg c1012] at H
            exact absurd H (by simp)
        · rw [if_neg c1011] at H
          exact absurd H (by simp)

end Go.Proofs.YtnnplkhjmdbmbaaDoor.PFnExactReadAddr
