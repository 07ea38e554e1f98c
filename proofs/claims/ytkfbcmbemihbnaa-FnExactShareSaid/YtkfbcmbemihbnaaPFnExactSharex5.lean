-- Written for this claim by a program of this session (wip/mkprint.py: the print, turned at a few places). Not trusted: Lean checks it.
import Derived.Test.YtkfbcmbemihbnaaPFnExactSharex0
import Derived.Test.YtkfbcmbemihbnaaPFnExactSharex2
import Derived.Test.YtkfbcmbemihbnaaPFnExactSharex3
import Derived.Test.YtkfbcmbemihbnaaPFnExactSharex4
namespace Go.Proofs.Ytkfbcmbemihbnaa.PFnExactShare
open Go.RowKit Go.Proofs.YtkfbcmbemihbnaaW.PrintWords Go.Proofs.YtkfbcmbemihbnaaW.PrintLast Go.Proofs.YtkfbcmbemihbnaaW.PrintMore
attribute [local go_sem] max2_int min2_int max_two min_two max_three min_three max_four min_four   -- for this text's walks alone
set_option linter.unusedVariables false
set_option linter.unusedSimpArgs false

/-! ### laws_heldInt64S: function 78 -/
def laws_heldInt64S.l0 : Nat → List Int → Int → Int → Option (Int)
  | 0, _, _, _ => none
  | k + 1, x0, x1, x5 => if x5 < (x0.length : Int) then (if 0 ≤ x5 then (if (rd x0 x5) = x1 then (laws_heldInt64S.l0 k x0 (wrap64 (x1 + 1)) (wrap64 (x5 + 1))) else (some (-1))) else (none)) else (some x1)
def laws_heldInt64S.f (k : Nat) (l0 : List Int) (a1 : Int) : Option (Int) := laws_heldInt64S.l0 k l0 a1 0
theorem laws_heldInt64S.mono_l : ∀ k, (∀ y0 y1 y2, LeO (laws_heldInt64S.l0 k y0 y1 y2) (laws_heldInt64S.l0 (k + 1) y0 y1 y2))
  | 0 => fun _ _ _ r h => by simp [laws_heldInt64S.l0] at h
  | k + 1 => by
    have ih0 := laws_heldInt64S.mono_l k
    · intro y0 y1 y2
      unfold laws_heldInt64S.l0
      repeat' first
      | (with_reducible exact ih0 _ _ _)
      | (with_reducible exact LeO.refl _)
      | (with_reducible exact LeO.none _)
      | (with_reducible refine LeO.ite ?_ ?_)
      | (with_reducible refine LeO.bind ?_ (fun _ => ?_))
      | exact ih0 _ _ _
      | exact LeO.none _
      | refine LeO.ite ?_ ?_
      | refine LeO.bind ?_ (fun _ => ?_)
theorem laws_heldInt64S.mono : ∀ a0 a1 k, LeO (laws_heldInt64S.f k a0 a1) (laws_heldInt64S.f (k + 1) a0 a1) := by
  intro a0 a1 k
  have ih0 := laws_heldInt64S.mono_l k
  unfold laws_heldInt64S.f
  repeat' first
      | (with_reducible exact ih0 _ _ _)
      | (with_reducible exact LeO.refl _)
      | (with_reducible exact LeO.none _)
      | (with_reducible refine LeO.ite ?_ ?_)
      | (with_reducible refine LeO.bind ?_ (fun _ => ?_))
      | exact ih0 _ _ _
      | exact LeO.none _
      | refine LeO.ite ?_ ?_
      | refine LeO.bind ?_ (fun _ => ?_)
set_option maxHeartbeats 60000000 in
set_option maxRecDepth 100000 in
theorem laws_heldInt64S.calls (k : Nat) (A0 : Option Addr) (c0 : Nat) (l0 : List Int) (a1 : Int) (r : Int) (w : World) (hr0 : Kd.C (Kd.int .i64) w A0 l0.length l0) (hc0 : l0.length ≤ c0) (h : laws_heldInt64S.f k l0 a1 = some r) :
    Calls Try.prog 78 #[.slice A0 l0.length c0, .int .i64 a1] w fun e w' => e = .returned (.int .i64 r) ∧ Drawn0 w w' := by
  have HR0 := Aside0.mk hr0
  have HC0 := Aside0.mk hc0
  clear hr0 hc0
  have H : (laws_heldInt64S.l0 k l0 a1 0) = some r := h
  clear h
  have H' := Aside0.mk H
  clear H
  go_enter Try.func78, Try.ntmps78
  go_wp2
  go_loopg [1, 5] k (fun kq v1 v5 w' => ∃ (x1_1 : Int) (x5_1 : Int), v1 = .int .i64 x1_1 ∧ v5 = .int .i64 x5_1 ∧ Aside0 (laws_heldInt64S.l0 kq l0 x1_1 x5_1 = some r) ∧ Aside0 (kq ≤ k) ∧ Drawn0 w w')
  case atStart => exact ⟨(a1), (0), (by first | rfl | (simp; done) | (simp [*]; done)), (by first | rfl | (simp; done) | (simp [*]; done)), H', ⟨Nat.le_refl _⟩, by repeat (first | exact Drawn0.refl _ | apply Drawn0.step)⟩
  case round =>
    clear H'
    obtain ⟨x1_1, x5_1, rfl, rfl, HA, HK1, ⟨m1, rfl⟩⟩ := hrel
    cases gk with
    | zero => exact absurd HA.out (by simp [laws_heldInt64S.l0])
    | succ k1 =>
      have H := HA.out
      clear HA
      simp only [laws_heldInt64S.l0] at H
      by_cases c1001 : x5_1 < (l0.length : Int)
      · rw [if_pos c1001] at H
        have c1001b0 : decide (x5_1 < (l0.length : Int)) = true := decide_eq_true c1001
        clear c1001
        by_cases c1002 : 0 ≤ x5_1
        · rw [if_pos c1002] at H
          have c1002b0 : decide (0 ≤ x5_1) = true := decide_eq_true c1002
          clear c1002
          by_cases c1003 : (rd l0 x5_1) = x1_1
          · rw [if_pos c1003] at H
            have c1003b0 : ((rd l0 x5_1) == x1_1) = true := beq_iff_eq.mpr c1003
            have c1003b1 : ((rd l0 x5_1) != x1_1) = false := bne_eq_false_iff_eq.mpr c1003
            clear c1003
            have H' := Aside0.mk H
            clear H
            have p202 : 0 ≤ (x5_1 : Int) := of_decide_eq_true (by first | (with_reducible assumption) | assumption)
            have q202 : x5_1 < (l0.length : Int) := of_decide_eq_true (by first | (with_reducible assumption) | assumption)
            obtain ⟨ad202, e202, hx202_0⟩ := Kd.at_int HR0.out x5_1 p202 q202
            cases e202
            replace p202 := eq_true p202
            replace q202 := eq_true q202
            go_wp2
            go_roundg k1
            case measure => have := HK1.out; omega
            case rel => exact ⟨(wrap64 (x1_1 + 1)), (wrap64 (x5_1 + 1)), (by first | rfl | (simp; done) | (simp [*]; done)), (by first | rfl | (simp; done) | (simp [*]; done)), H', ⟨by have := HK1.out; omega⟩, by repeat (first | exact Drawn0.refl _ | apply Drawn0.step)⟩
          · rw [if_neg c1003] at H
            have c1003b0 : ((rd l0 x5_1) == x1_1) = false := beq_eq_false_iff_ne.mpr c1003
            have c1003b1 : ((rd l0 x5_1) != x1_1) = true := bne_iff_ne.mpr c1003
            obtain rfl := Option.some.inj H
            have p202 : 0 ≤ (x5_1 : Int) := of_decide_eq_true (by first | (with_reducible assumption) | assumption)
            have q202 : x5_1 < (l0.length : Int) := of_decide_eq_true (by first | (with_reducible assumption) | assumption)
            obtain ⟨ad202, e202, hx202_0⟩ := Kd.at_int HR0.out x5_1 p202 q202
            cases e202
            replace p202 := eq_true p202
            replace q202 := eq_true q202
            go_wp2
            go_ret
            exact ⟨by first | rfl | (simp; done) | (simp [*]; done), by repeat (first | exact Drawn0.refl _ | apply Drawn0.step)⟩
        · rw [if_neg c1002] at H
          exact absurd H (by simp)
      · rw [if_neg c1001] at H
        have c1001b0 : decide (x5_1 < (l0.length : Int)) = false := decide_eq_false c1001
        clear c1001
        obtain rfl := Option.some.inj H
        go_wp2
        go_ret
        exact ⟨by first | rfl | (simp; done) | (simp [*]; done), by repeat (first | exact Drawn0.refl _ | apply Drawn0.step)⟩

/-! ### laws_heldShareRowS: function 29 -/
def laws_heldShareRowS.l0 : Nat → List (S35) → Int → Int → Option (Int)
  | 0, _, _, _ => none
  | k + 1, x0, x1, x5 => if x5 < (x0.length : Int) then (if 0 ≤ x5 then (if (((rd_T35 x0 x5).f0) != ((Int.tmod x1 3) == 0)) = true then (some (-1)) else ((laws_heldInt64S.f k ((rd_T35 x0 x5).f1) (wrap64 (x1 + 1))).bind fun t205 => (if t205 < 0 then (some (-1)) else (laws_heldShareRowS.l0 k x0 t205 (wrap64 (x5 + 1)))))) else (none)) else (some x1)
def laws_heldShareRowS.f (k : Nat) (l0 : List (S35)) (a1 : Int) : Option (Int) := laws_heldShareRowS.l0 k l0 a1 0
theorem laws_heldShareRowS.mono_l : ∀ k, (∀ y0 y1 y2, LeO (laws_heldShareRowS.l0 k y0 y1 y2) (laws_heldShareRowS.l0 (k + 1) y0 y1 y2))
  | 0 => fun _ _ _ r h => by simp [laws_heldShareRowS.l0] at h
  | k + 1 => by
    have ih0 := laws_heldShareRowS.mono_l k
    · intro y0 y1 y2
      unfold laws_heldShareRowS.l0
      repeat' first
      | (with_reducible exact ih0 _ _ _)
      | (with_reducible exact laws_heldInt64S.mono _ _ _)
      | (with_reducible exact LeO.refl _)
      | (with_reducible exact LeO.none _)
      | (with_reducible refine LeO.ite ?_ ?_)
      | (with_reducible refine LeO.bind ?_ (fun _ => ?_))
      | exact ih0 _ _ _
      | exact laws_heldInt64S.mono _ _ _
      | exact LeO.none _
      | refine LeO.ite ?_ ?_
      | refine LeO.bind ?_ (fun _ => ?_)
theorem laws_heldShareRowS.mono : ∀ a0 a1 k, LeO (laws_heldShareRowS.f k a0 a1) (laws_heldShareRowS.f (k + 1) a0 a1) := by
  intro a0 a1 k
  have ih0 := laws_heldShareRowS.mono_l k
  unfold laws_heldShareRowS.f
  repeat' first
      | (with_reducible exact ih0 _ _ _)
      | (with_reducible exact laws_heldInt64S.mono _ _ _)
      | (with_reducible exact LeO.refl _)
      | (with_reducible exact LeO.none _)
      | (with_reducible refine LeO.ite ?_ ?_)
      | (with_reducible refine LeO.bind ?_ (fun _ => ?_))
      | exact ih0 _ _ _
      | exact laws_heldInt64S.mono _ _ _
      | exact LeO.none _
      | refine LeO.ite ?_ ?_
      | refine LeO.bind ?_ (fun _ => ?_)
set_option maxHeartbeats 60000000 in
set_option maxRecDepth 100000 in
theorem laws_heldShareRowS.calls (k : Nat) (A0 : Option Addr) (c0 : Nat) (l0 : List (S35)) (a1 : Int) (r : Int) (w : World) (hr0 : Kd.C k35 w A0 l0.length l0) (hc0 : l0.length ≤ c0) (h : laws_heldShareRowS.f k l0 a1 = some r) :
    Calls Try.prog 29 #[.slice A0 l0.length c0, .int .i64 a1] w fun e w' => e = .returned (.int .i64 r) ∧ Drawn0 w w' := by
  have HR0 := Aside0.mk hr0
  have HC0 := Aside0.mk hc0
  clear hr0 hc0
  have H : (laws_heldShareRowS.l0 k l0 a1 0) = some r := h
  clear h
  have H' := Aside0.mk H
  clear H
  go_enter Try.func29, Try.ntmps29
  go_wp2
  go_loopg [1, 5] k (fun kq v1 v5 w' => ∃ (x1_1 : Int) (x5_1 : Int), v1 = .int .i64 x1_1 ∧ v5 = .int .i64 x5_1 ∧ Aside0 (laws_heldShareRowS.l0 kq l0 x1_1 x5_1 = some r) ∧ Aside0 (kq ≤ k) ∧ Drawn0 w w')
  case atStart => exact ⟨(a1), (0), (by first | rfl | (simp; done) | (simp [*]; done)), (by first | rfl | (simp; done) | (simp [*]; done)), H', ⟨Nat.le_refl _⟩, by repeat (first | exact Drawn0.refl _ | apply Drawn0.step)⟩
  case round =>
    clear H'
    obtain ⟨x1_1, x5_1, rfl, rfl, HA, HK1, ⟨m1, rfl⟩⟩ := hrel
    cases gk with
    | zero => exact absurd HA.out (by simp [laws_heldShareRowS.l0])
    | succ k1 =>
      have H := HA.out
      clear HA
      simp only [laws_heldShareRowS.l0] at H
      by_cases c1001 : x5_1 < (l0.length : Int)
      · rw [if_pos c1001] at H
        have c1001b0 : decide (x5_1 < (l0.length : Int)) = true := decide_eq_true c1001
        clear c1001
        by_cases c1002 : 0 ≤ x5_1
        · rw [if_pos c1002] at H
          have c1002b0 : decide (0 ≤ x5_1) = true := decide_eq_true c1002
          clear c1002
          by_cases c1003 : (((rd_T35 l0 x5_1).f0) != ((Int.tmod x1_1 3) == 0)) = true
          · rw [if_pos c1003] at H
            have c1003b0 : (((rd_T35 l0 x5_1).f0) != ((Int.tmod x1_1 3) == 0)) = true := c1003
            (try (have c1003b1 : decide (((rd_T35 l0 x5_1).f0) = ((Int.tmod x1_1 3) == 0)) = false := by simpa using c1003))
            (try (have c1003b2 : (((rd_T35 l0 x5_1).f0) == ((Int.tmod x1_1 3) == 0)) = false := by simpa using c1003))
            (try (have c1003b3 : ¬ (((rd_T35 l0 x5_1).f0) = ((Int.tmod x1_1 3) == 0)) := by simpa using c1003))
            clear c1003
            obtain rfl := Option.some.inj H
            have p203 : 0 ≤ (x5_1 : Int) := of_decide_eq_true (by first | (with_reducible assumption) | assumption)
            have q203 : x5_1 < (l0.length : Int) := of_decide_eq_true (by first | (with_reducible assumption) | assumption)
            obtain ⟨ad203, A203_1, c203_1, e203, hx203_0, hx203_1, hl203_1, hi203_1⟩ := at_T35 HR0.out x5_1 p203 q203
            cases e203
            have HR203_1 := Aside0.mk hi203_1
            have HC203_1 := Aside0.mk hl203_1
            clear hi203_1 hl203_1
            replace p203 := eq_true p203
            replace q203 := eq_true q203
            go_wp2
            go_ret
            exact ⟨by first | rfl | (simp; done) | (simp [*]; done), by repeat (first | exact Drawn0.refl _ | apply Drawn0.step)⟩
          · rw [if_neg c1003] at H
            have c1003b0 : (((rd_T35 l0 x5_1).f0) != ((Int.tmod x1_1 3) == 0)) = false := by simpa using c1003
            (try (have c1003b1 : decide (((rd_T35 l0 x5_1).f0) = ((Int.tmod x1_1 3) == 0)) = true := by simpa using c1003))
            (try (have c1003b2 : (((rd_T35 l0 x5_1).f0) == ((Int.tmod x1_1 3) == 0)) = true := by simpa using c1003))
            clear c1003
            replace H := Option.bind_eq_some_iff.mp H
            obtain ⟨t205, A10040, H⟩ := H
            replace H : (if t205 < 0 then (some (-1)) else (laws_heldShareRowS.l0 k1 l0 t205 (wrap64 (x5_1 + 1)))) = some r := H
            have A1004 := Aside0.mk A10040
            clear A10040
            by_cases c1005 : t205 < 0
            · rw [if_pos c1005] at H
              have c1005b0 : decide (t205 < 0) = true := decide_eq_true c1005
              clear c1005
              obtain rfl := Option.some.inj H
              have p203 : 0 ≤ (x5_1 : Int) := of_decide_eq_true (by first | (with_reducible assumption) | assumption)
              have q203 : x5_1 < (l0.length : Int) := of_decide_eq_true (by first | (with_reducible assumption) | assumption)
              obtain ⟨ad203, A203_1, c203_1, e203, hx203_0, hx203_1, hl203_1, hi203_1⟩ := at_T35 HR0.out x5_1 p203 q203
              cases e203
              have HR203_1 := Aside0.mk hi203_1
              have HC203_1 := Aside0.mk hl203_1
              clear hi203_1 hl203_1
              replace p203 := eq_true p203
              replace q203 := eq_true q203
              have p204 : 0 ≤ (x5_1 : Int) := of_decide_eq_true (by first | (with_reducible assumption) | assumption)
              have q204 : x5_1 < (l0.length : Int) := of_decide_eq_true (by first | (with_reducible assumption) | assumption)
              obtain ⟨ad204, A204_1, c204_1, e204, hx204_0, hx204_1, hl204_1, hi204_1⟩ := at_T35 HR0.out x5_1 p204 q204
              obtain rfl : ad203 = ad204 := (by injection e204)
              have HR204_1 := Aside0.mk hi204_1
              have HC204_1 := Aside0.mk hl204_1
              clear hi204_1 hl204_1
              replace p204 := eq_true p204
              replace q204 := eq_true q204
              have ea_ := Option.some.inj (hx203_1.symm.trans hx204_1)
              injection ea_ with ea_ en_ ec_
              subst ea_
              subst ec_
              clear en_
              go_wp2_with (first | ((with_reducible refine gate_callee (f := 78) rfl ?_); refine goesL_ (some 29) rfl rfl Try.func78 (by kernel_rfl) rfl #[.slice A203_1 ((rd_T35 l0 x5_1).f1).length c203_1, .int .i64 (wrap64 (x1_1 + 1))] rfl wT ?_; (with_reducible refine (laws_heldInt64S.calls k1 _ _ ((rd_T35 l0 x5_1).f1) (wrap64 (x1_1 + 1)) t205 _ ?side1 ?side2 A1004.out).mono ?_); (case side1 => repeat (first | exact HR204_1.out | (with_reducible refine Kd.C_alloc ?_ _) | (with_reducible refine Kd.C_drewN ?_ _) | (with_reducible refine Kd.C_drew ?_))); (case side2 => exact HC204_1.out); rintro e w' ⟨rfl, ⟨nd, rfl⟩⟩; refine ⟨_, rfl, ?_⟩))
              go_ret
              exact ⟨by first | rfl | (simp; done) | (simp [*]; done), by repeat (first | exact Drawn0.refl _ | apply Drawn0.step)⟩
            · rw [if_neg c1005] at H
              have c1005b0 : decide (t205 < 0) = false := decide_eq_false c1005
              clear c1005
              have H' := Aside0.mk H
              clear H
              have p203 : 0 ≤ (x5_1 : Int) := of_decide_eq_true (by first | (with_reducible assumption) | assumption)
              have q203 : x5_1 < (l0.length : Int) := of_decide_eq_true (by first | (with_reducible assumption) | assumption)
              obtain ⟨ad203, A203_1, c203_1, e203, hx203_0, hx203_1, hl203_1, hi203_1⟩ := at_T35 HR0.out x5_1 p203 q203
              cases e203
              have HR203_1 := Aside0.mk hi203_1
              have HC203_1 := Aside0.mk hl203_1
              clear hi203_1 hl203_1
              replace p203 := eq_true p203
              replace q203 := eq_true q203
              have p204 : 0 ≤ (x5_1 : Int) := of_decide_eq_true (by first | (with_reducible assumption) | assumption)
              have q204 : x5_1 < (l0.length : Int) := of_decide_eq_true (by first | (with_reducible assumption) | assumption)
              obtain ⟨ad204, A204_1, c204_1, e204, hx204_0, hx204_1, hl204_1, hi204_1⟩ := at_T35 HR0.out x5_1 p204 q204
              obtain rfl : ad203 = ad204 := (by injection e204)
              have HR204_1 := Aside0.mk hi204_1
              have HC204_1 := Aside0.mk hl204_1
              clear hi204_1 hl204_1
              replace p204 := eq_true p204
              replace q204 := eq_true q204
              have ea_ := Option.some.inj (hx203_1.symm.trans hx204_1)
              injection ea_ with ea_ en_ ec_
              subst ea_
              subst ec_
              clear en_
              go_wp2_with (first | ((with_reducible refine gate_callee (f := 78) rfl ?_); refine goesL_ (some 29) rfl rfl Try.func78 (by kernel_rfl) rfl #[.slice A203_1 ((rd_T35 l0 x5_1).f1).length c203_1, .int .i64 (wrap64 (x1_1 + 1))] rfl wT ?_; (with_reducible refine (laws_heldInt64S.calls k1 _ _ ((rd_T35 l0 x5_1).f1) (wrap64 (x1_1 + 1)) t205 _ ?side1 ?side2 A1004.out).mono ?_); (case side1 => repeat (first | exact HR204_1.out | (with_reducible refine Kd.C_alloc ?_ _) | (with_reducible refine Kd.C_drewN ?_ _) | (with_reducible refine Kd.C_drew ?_))); (case side2 => exact HC204_1.out); rintro e w' ⟨rfl, ⟨nd, rfl⟩⟩; refine ⟨_, rfl, ?_⟩))
              go_roundg k1
              case measure => have := HK1.out; omega
              case rel => exact ⟨(t205), (wrap64 (x5_1 + 1)), (by first | rfl | (simp; done) | (simp [*]; done)), (by first | rfl | (simp; done) | (simp [*]; done)), H', ⟨by have := HK1.out; omega⟩, by repeat (first | exact Drawn0.refl _ | apply Drawn0.step)⟩
        · rw [if_neg c1002] at H
          exact absurd H (by simp)
      · rw [if_neg c1001] at H
        have c1001b0 : decide (x5_1 < (l0.length : Int)) = false := decide_eq_false c1001
        clear c1001
        obtain rfl := Option.some.inj H
        go_wp2
        go_ret
        exact ⟨by first | rfl | (simp; done) | (simp [*]; done), by repeat (first | exact Drawn0.refl _ | apply Drawn0.step)⟩

/-! ### laws_FnExactShare: function 5 -/
/-- the blocks made between two worlds -/
def Iv (a b : Nat) (k : Nat) : Prop := a ≤ k ∧ k < b
theorem S_iv {α : Type} {d : Kd α} {e : Nat} {w1 : World} {base : Nat} {ok : Nat → Prop} {v : Value} {xs : List α} (h : Kd.S d e w1 base ok v xs) : Kd.S d e w1 base (Iv base w1.heap.size) v xs := Kd.S_mono (Kd.S_bound h) (fun _ hk => ⟨hk.2.1, hk.2.2.1⟩)
theorem R_iv {α : Type} {d : Kd α} {e : Nat} {w1 : World} {base : Nat} {ok : Nat → Prop} {v : Value} {xs : List α} (h : Kd.R d e w1 base ok v xs) : Kd.R d e w1 base (Iv base w1.heap.size) v xs := Kd.R_mono (Kd.R_bound h) (fun _ hk => ⟨hk.2.1, hk.2.2.1⟩)
theorem below_of_drawn {w w' : World} (h : Drawn0 w w') : Below w.heap.size w w' := by
  obtain ⟨m, rfl⟩ := h
  exact pw_below_drewN (Below.refl _ _) m
set_option maxHeartbeats 60000000 in
set_option maxRecDepth 100000 in
theorem laws_FnExactShare.great (a0 a1 : Int) (A2 : Option Addr) (c2 : Nat) (l2 : List Int) (a3 : Int) (w : World) (c0 : (l2.length : Int) > 1048576) :
    Calls Try.prog 5 #[.int .i64 a0, .int .i64 a1, .slice A2 l2.length c2, .int .i64 a3] w fun e w' => e = .returned (.bool true) ∧ Below w.heap.size w w' := by
  have c0b : decide (1048576 < (l2.length : Int)) = true := decide_eq_true c0
  clear c0
  go_enter Try.func5, Try.ntmps5
  go_wp2
  go_ret
  exact ⟨by first | rfl | (simp; done) | (simp [*]; done), by repeat (first | exact Below.refl _ _ | apply below_alloc | apply pw_below_drewN | apply below_drew1)⟩
set_option maxHeartbeats 60000000 in
set_option maxRecDepth 100000 in
theorem laws_FnExactShare.calls (k : Nat) (a0 a1 : Int) (A2 : Option Addr) (c2 : Nat) (l2 : List Int) (a3 : Int) (t : List Int) (ws gs : List S35) (gc : Int) (m : Int) (t' : List Int) (z : Int) (gs' : List S35) (w : World) (hr2 : Kd.C (Kd.int .i64) w A2 l2.length l2) (hc2 : l2.length ≤ c2)
    (hl : (l2.length : Int) ≤ 1048576) (e1 : laws_toInt64S.f k l2 = some t) (e2 : spec_Share.f k a0 a1 t a3 = some (ws, gc)) (e3 : impl_Share.f k a0 a1 t a3 = some (gs, gc)) (e4 : laws_eqShareRowS.f k gs ws = some true) (e5 : laws_eqInt64S.f k t t = some true) (e6 : laws_markInt64S.f k t 1 = some (m, t')) (hm : 0 ≤ m) (e7 : laws_markShareRowS.f k gs 1 = some (z, gs')) (e8 : laws_heldShareRowS.f k gs' 1 = some z) (hz : 0 ≤ z) :
    Calls Try.prog 5 #[.int .i64 a0, .int .i64 a1, .slice A2 l2.length c2, .int .i64 a3] w fun e w' => e = .returned (.bool true) ∧ Below w.heap.size w w' := by
  have c0b : decide (1048576 < (l2.length : Int)) = false := decide_eq_false (by omega)
  have cm : decide (m < 0) = false := decide_eq_false (by omega)
  have cz : decide (z < 0) = false := decide_eq_false (by omega)
  clear hl hm hz
  have E1 := Aside0.mk e1
  have E2 := Aside0.mk e2
  have E3 := Aside0.mk e3
  have E4 := Aside0.mk e4
  have E5 := Aside0.mk e5
  have E6 := Aside0.mk e6
  have E7 := Aside0.mk e7
  have E8 := Aside0.mk e8
  have HR := Aside0.mk hr2
  have HC := Aside0.mk hc2
  clear e1 e2 e3 e4 e5 e6 e7 e8 hr2 hc2
  go_enter Try.func5, Try.ntmps5
  go_wp2_with (first
    | ((with_reducible refine gate_callee (f := 24) rfl ?_); refine goesL_ (some 26) rfl rfl Try.func24 (by kernel_rfl) rfl #[.slice A2 l2.length c2] rfl wT ?_; (with_reducible refine (laws_toInt64S.calls k A2 c2 l2 t _ ?side1 ?side2 E1.out).mono ?_); (case side1 => exact HR.out); (case side2 => exact HC.out); rintro e v1 ⟨u1, rfl, h1, b1⟩; refine ⟨_, rfl, ?_⟩; obtain ⟨A1, c1, eu1⟩ := Kd.R_slice h1; subst eu1; have T1 := Aside0.mk h1; have B1 := Aside0.mk b1; have M1 := Aside0.mk b1.size; clear h1 b1)
    | ((with_reducible refine gate_callee (f := 23) rfl ?_); refine goesL_ (some 28) rfl rfl Try.func23 (by kernel_rfl) rfl #[.int .i64 a0, .int .i64 a1, .slice A1 t.length c1, .int .i64 a3] rfl wT ?_; (with_reducible refine (spec_Share.calls k a0 a1 A1 c1 t a3 ws gc _ ?side1 ?side2 E2.out).mono ?_); (case side1 => exact (Kd.R_reads' T1.out).2.2); (case side2 => exact (Kd.R_reads' T1.out).2.1); rintro e v2 ⟨u2, rfl, h2, b2⟩; refine ⟨_, rfl, ?_⟩; obtain ⟨Aw, cw, eu2⟩ := Kd.S_slice h2; subst eu2; have SW2 := Aside0.mk (S_iv h2); have B2 := Aside0.mk (below_step B1.out b2); have M2 := Aside0.mk b2.size; clear h2 b2)
    | ((with_reducible refine gate_callee (f := 24) rfl ?_); refine goesL_ (some 32) rfl rfl Try.func24 (by kernel_rfl) rfl #[.slice A2 l2.length c2] rfl wT ?_; (with_reducible refine (laws_toInt64S.calls k A2 c2 l2 t _ ?side1 ?side2 E1.out).mono ?_); (case side1 => exact Kd.C_below HR.out B2.out); (case side2 => exact HC.out); rintro e v3 ⟨u3, rfl, h3, b3⟩; refine ⟨_, rfl, ?_⟩; obtain ⟨Ax, cx, eu3⟩ := Kd.R_slice h3; subst eu3; have X3 := Aside0.mk (R_iv h3); have SW3 := Aside0.mk (Kd.S_below SW2.out b3); have B3 := Aside0.mk (below_step B2.out b3); have M3 := Aside0.mk b3.size; clear h3 b3)
    | ((with_reducible refine gate_callee (f := 16) rfl ?_); refine goesL_ (some 38) rfl rfl Try.func16 (by kernel_rfl) rfl #[.int .i64 a0, .int .i64 a1, .slice Ax t.length cx, .int .i64 a3] rfl wT ?_; (with_reducible refine (impl_Share.calls k a0 a1 Ax cx t a3 gs gc _ ?side1 ?side2 E3.out).mono ?_); (case side1 => exact (Kd.R_reads' X3.out).2.2); (case side2 => exact (Kd.R_reads' X3.out).2.1); rintro e v4 ⟨u4, rfl, h4, b4⟩; refine ⟨_, rfl, ?_⟩; obtain ⟨Ag, cg, eu4⟩ := Kd.S_slice h4; subst eu4; have G4 := Aside0.mk (S_iv h4); have SW4 := Aside0.mk (Kd.S_below SW3.out b4); have X4 := Aside0.mk (Kd.R_below X3.out b4); have B4 := Aside0.mk (below_step B3.out b4); have M4 := Aside0.mk b4.size; clear h4 b4)
    | ((with_reducible refine gate_callee (f := 25) rfl ?_); refine goesL_ (some 43) rfl rfl Try.func25 (by kernel_rfl) rfl #[.slice Ag gs.length cg, .slice Aw ws.length cw] rfl wT ?_; (with_reducible refine (laws_eqShareRowS.calls k Ag cg gs Aw cw ws true _ ?side1 ?side2 ?side3 ?side4 E4.out).mono ?_); (case side1 => exact (Kd.S_reads' G4.out).2.2); (case side2 => exact (Kd.S_reads' G4.out).2.1); (case side3 => exact (Kd.S_reads' SW4.out).2.2); (case side4 => exact (Kd.S_reads' SW4.out).2.1); rintro e v5 ⟨rfl, b5⟩; refine ⟨_, rfl, ?_⟩; have SW5 := Aside0.mk (Kd.S_below SW4.out b5); have X5 := Aside0.mk (Kd.R_below X4.out b5); have G5 := Aside0.mk (Kd.S_below G4.out b5); have B5 := Aside0.mk (below_step B4.out b5); clear b5)
    | ((with_reducible refine gate_callee (f := 24) rfl ?_); refine goesL_ (some 52) rfl rfl Try.func24 (by kernel_rfl) rfl #[.slice A2 l2.length c2] rfl wT ?_; (with_reducible refine (laws_toInt64S.calls k A2 c2 l2 t _ ?side1 ?side2 E1.out).mono ?_); (case side1 => exact Kd.C_below HR.out B5.out); (case side2 => exact HC.out); rintro e v6 ⟨u6, rfl, h6, b6⟩; refine ⟨_, rfl, ?_⟩; obtain ⟨Ay, cy, eu6⟩ := Kd.R_slice h6; subst eu6; have Y6 := Aside0.mk h6; have SW6 := Aside0.mk (Kd.S_below SW5.out b6); have X6 := Aside0.mk (Kd.R_below X5.out b6); have G6 := Aside0.mk (Kd.S_below G5.out b6); have B6 := Aside0.mk (below_step B5.out b6); clear h6 b6)
    | ((with_reducible refine gate_callee (f := 26) rfl ?_); refine goesL_ (some 53) rfl rfl Try.func26 (by kernel_rfl) rfl #[.slice Ax t.length cx, .slice Ay t.length cy] rfl wT ?_; (with_reducible refine (laws_eqInt64S.calls k Ax cx t Ay cy t true _ ?side1 ?side2 ?side3 ?side4 E5.out).mono ?_); (case side1 => exact (Kd.R_reads' X6.out).2.2); (case side2 => exact (Kd.R_reads' X6.out).2.1); (case side3 => exact (Kd.R_reads' Y6.out).2.2); (case side4 => exact (Kd.R_reads' Y6.out).2.1); rintro e v7 ⟨rfl, d7⟩; refine ⟨_, rfl, ?_⟩; have b7 := below_of_drawn d7; have SW7 := Aside0.mk (Kd.S_below SW6.out b7); have X7 := Aside0.mk (Kd.R_below X6.out b7); have G7 := Aside0.mk (Kd.S_below G6.out b7); have B7 := Aside0.mk (below_step B6.out b7); clear b7 d7)
    | ((with_reducible refine gate_callee (f := 27) rfl ?_); refine goesL_ (some 57) rfl rfl Try.func27 (by kernel_rfl) rfl #[.slice Ax t.length cx, .int .i64 1] rfl wT ?_; (with_reducible refine (laws_markInt64S.calls k (Iv v2.heap.size v3.heap.size) (.slice Ax t.length cx) t 1 m t' w _ ?side1 ?side2 E6.out).mono ?_); (case side1 => exact B7.out); (case side2 => exact Kd.R_lower X7.out (Nat.le_trans M1.out M2.out)); rintro e v8 ⟨rfl, hy8, hb8, hk8⟩; refine ⟨_, rfl, ?_⟩; have SW8 := Aside0.mk (Kd.S_kept SW7.out hk8 (fun k_ h_ h2_ => Nat.not_le.2 h_.2 h2_.1)); have G8 := Aside0.mk (Kd.S_kept G7.out hk8 (fun k_ h_ h2_ => Nat.not_le.2 h2_.2 h_.1)); have B8 := Aside0.mk hb8; clear hy8 hb8 hk8)
    | (go_at_call 25; (with_reducible refine (laws_eqShareRowS.calls k Ag cg gs Aw cw ws true _ ?side1 ?side2 ?side3 ?side4 E4.out).mono ?_); (case side1 => exact (Kd.S_reads' G8.out).2.2); (case side2 => exact (Kd.S_reads' G8.out).2.1); (case side3 => exact (Kd.S_reads' SW8.out).2.2); (case side4 => exact (Kd.S_reads' SW8.out).2.1); rintro e v9 ⟨rfl, b9⟩; have SW9 := Aside0.mk (Kd.S_below SW8.out b9); have G9 := Aside0.mk (Kd.S_below G8.out b9); have B9 := Aside0.mk (below_step B8.out b9); clear b9)
    | ((with_reducible refine gate_callee (f := 28) rfl ?_); refine goesL_ (some 73) rfl rfl Try.func28 (by kernel_rfl) rfl #[.slice Ag gs.length cg, .int .i64 1] rfl wT ?_; (with_reducible refine (laws_markShareRowS.calls k (Iv v3.heap.size v4.heap.size) (.slice Ag gs.length cg) gs 1 z gs' w _ ?side1 ?side2 E7.out).mono ?_); (case side1 => exact B9.out); (case side2 => exact Kd.S_lower G9.out (Nat.le_trans M1.out (Nat.le_trans M2.out M3.out))); rintro e v10 ⟨rfl, hy10, hb10, hk10⟩; refine ⟨_, rfl, ?_⟩; have G10 := Aside0.mk hy10; have SW10 := Aside0.mk (Kd.S_kept SW9.out hk10 (fun k_ h_ h2_ => Nat.not_le.2 h_.2 (Nat.le_trans M3.out h2_.1))); have B10 := Aside0.mk hb10; have NL := Aside0.mk (Kd.S_reads' hy10).1; clear hy10 hb10 hk10)
    | ((with_reducible refine gate_callee (f := 29) rfl ?_); refine goesL_ (some 76) rfl rfl Try.func29 (by kernel_rfl) rfl #[.slice Ag gs'.length cg, .int .i64 1] rfl (by first | (rw [← NL.out]; exact wT) | (rw [← NL.out]; rfl)) ?_; (with_reducible refine (laws_heldShareRowS.calls k Ag cg gs' 1 z _ ?side1 ?side2 E8.out).mono ?_); (case side1 => exact (Kd.S_reads' G10.out).2.2); (case side2 => exact (NL.out ▸ (Kd.S_reads' G10.out).2.1)); rintro e v11 ⟨rfl, d11⟩; refine ⟨_, rfl, ?_⟩; have b11 := below_of_drawn d11; have SW11 := Aside0.mk (Kd.S_below SW10.out b11); have G11 := Aside0.mk (Kd.S_below G10.out b11); have B11 := Aside0.mk (below_step B10.out b11); clear b11 d11)
    | ((with_reducible refine gate_callee (f := 24) rfl ?_); refine goesL_ (some 86) rfl rfl Try.func24 (by kernel_rfl) rfl #[.slice A2 l2.length c2] rfl wT ?_; (with_reducible refine (laws_toInt64S.calls k A2 c2 l2 t _ ?side1 ?side2 E1.out).mono ?_); (case side1 => exact Kd.C_below HR.out B11.out); (case side2 => exact HC.out); rintro e v12 ⟨u12, rfl, h12, b12⟩; refine ⟨_, rfl, ?_⟩; obtain ⟨Ab, cb, eu12⟩ := Kd.R_slice h12; subst eu12; have T12 := Aside0.mk h12; have SW12 := Aside0.mk (Kd.S_below SW11.out b12); have G12 := Aside0.mk (Kd.S_below G11.out b12); have B12 := Aside0.mk (below_step B11.out b12); clear h12 b12)
    | ((with_reducible refine gate_callee (f := 16) rfl ?_); refine goesL_ (some 88) rfl rfl Try.func16 (by kernel_rfl) rfl #[.int .i64 a0, .int .i64 a1, .slice Ab t.length cb, .int .i64 a3] rfl wT ?_; (with_reducible refine (impl_Share.calls k a0 a1 Ab cb t a3 gs gc _ ?side1 ?side2 E3.out).mono ?_); (case side1 => exact (Kd.R_reads' T12.out).2.2); (case side2 => exact (Kd.R_reads' T12.out).2.1); rintro e v13 ⟨u13, rfl, h13, b13⟩; refine ⟨_, rfl, ?_⟩; obtain ⟨Ah, ch, eu13⟩ := Kd.S_slice h13; subst eu13; have H13 := Aside0.mk h13; have SW13 := Aside0.mk (Kd.S_below SW12.out b13); have G13 := Aside0.mk (Kd.S_below G12.out b13); have B13 := Aside0.mk (below_step B12.out b13); clear h13 b13)
    | ((with_reducible refine gate_callee (f := 25) rfl ?_); refine goesL_ (some 93) rfl rfl Try.func25 (by kernel_rfl) rfl #[.slice Ah gs.length ch, .slice Aw ws.length cw] rfl wT ?_; (with_reducible refine (laws_eqShareRowS.calls k Ah ch gs Aw cw ws true _ ?side1 ?side2 ?side3 ?side4 E4.out).mono ?_); (case side1 => exact (Kd.S_reads' H13.out).2.2); (case side2 => exact (Kd.S_reads' H13.out).2.1); (case side3 => exact (Kd.S_reads' SW13.out).2.2); (case side4 => exact (Kd.S_reads' SW13.out).2.1); rintro e v14 ⟨rfl, b14⟩; refine ⟨_, rfl, ?_⟩; have G14 := Aside0.mk (Kd.S_below G13.out b14); have B14 := Aside0.mk (below_step B13.out b14); clear b14)
    | ((with_reducible refine gate_callee (f := 29) rfl ?_); refine goesL_ (some 102) rfl rfl Try.func29 (by kernel_rfl) rfl #[.slice Ag gs'.length cg, .int .i64 1] rfl (by first | (rw [← NL.out]; exact wT) | (rw [← NL.out]; rfl)) ?_; (with_reducible refine (laws_heldShareRowS.calls k Ag cg gs' 1 z _ ?side1 ?side2 E8.out).mono ?_); (case side1 => exact (Kd.S_reads' G14.out).2.2); (case side2 => exact (NL.out ▸ (Kd.S_reads' G14.out).2.1)); rintro e v15 ⟨rfl, d15⟩; refine ⟨_, rfl, ?_⟩; have B15 := Aside0.mk (below_step B14.out (below_of_drawn d15)); clear d15))
  go_ret
  exact ⟨by first | rfl | (simp; done) | (simp [*]; done), B15.out⟩
/-- THE ONE PURE STATEMENT of laws_FnExactShare: yours. -/
def laws_FnExactShare.Pure : Prop := ∀ (a0 a1 : Int) (l2 : List Int) (a3 : Int), (Lit.int .i64 a0).wf = true → (Lit.int .i64 a1).wf = true → l2.length ≤ maxLen → l2.length * 8 ≤ 140737488351232 → (∀ x ∈ l2, (Lit.int .i64 x).wf = true) → (Lit.int .i64 a3).wf = true → (l2.length : Int) ≤ 1048576 →
  ∃ (k : Nat) (t : List Int) (ws gs : List S35) (gc m : Int) (t' : List Int) (z : Int) (gs' : List S35), laws_toInt64S.f k l2 = some t ∧ spec_Share.f k a0 a1 t a3 = some (ws, gc) ∧ impl_Share.f k a0 a1 t a3 = some (gs, gc) ∧ laws_eqShareRowS.f k gs ws = some true ∧ laws_eqInt64S.f k t t = some true ∧ laws_markInt64S.f k t 1 = some (m, t') ∧ 0 ≤ m ∧ laws_markShareRowS.f k gs 1 = some (z, gs') ∧ laws_heldShareRowS.f k gs' 1 = some z ∧ 0 ≤ z
theorem laws_FnExactShare.walk (P : laws_FnExactShare.Pure) (a0 : Int) (a1 : Int) (a2 : Option Addr) (len2 cap2 : Nat) (z2 : List Int) (a3 : Int) (w : World) (w0 : (Lit.int .i64 a0).wf = true) (w1 : (Lit.int .i64 a1).wf = true) (w2 : (a2 = none ∧ len2 = 0 ∧ cap2 = 0 ∧ z2 = []) ∨ ∃ x, a2 = some x ∧ len2 ≤ cap2 ∧ cap2 ≤ maxLen ∧ z2.length = cap2 ∧ (∀ i, i < z2.length → w.cell? (x.add i) = some (.int .i64 (z2.getD i 0))) ∧ ∀ n ∈ z2, (Lit.int .i64 n).wf = true) (y2 : len2 * 8 ≤ 140737488351232) (w3 : (Lit.int .i64 a3).wf = true) :
    Calls Try.prog 5 #[.int .i64 a0, .int .i64 a1, .slice a2 len2 cap2, .int .i64 a3] w fun e w' => e = .returned (.bool true) ∧ Below w.heap.size w w' := by
  obtain ⟨l2, rfl, hr2, hm2, hw2, hc2⟩ := ReadsInt.ofRowC w2
  by_cases c0 : (l2.length : Int) > 1048576
  · exact laws_FnExactShare.great a0 a1 _ _ l2 a3 w c0
  · obtain ⟨k, t, ws, gs, gc, m, t', z, gs', e1, e2, e3, e4, e5, e6, hm, e7, e8, hz⟩ := P a0 a1 l2 a3 w0 w1 hm2 y2 hw2 w3 (by omega)
    exact laws_FnExactShare.calls k a0 a1 _ _ l2 a3 t ws gs gc m t' z gs' w (Kd.C_of_reads (d := (0 : Int)) (h1 := fun _ => rfl) hr2) hc2 (by omega) e1 e2 e3 e4 e5 e6 hm e7 e8 hz


end Go.Proofs.Ytkfbcmbemihbnaa.PFnExactShare
