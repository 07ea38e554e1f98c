-- Written for this claim by a program of this session (wip/mkprint.py: the print, turned at a few places). Not trusted: Lean checks it.
import Derived.Test.YtkfbcmbemihbnaaPFnExactSharex0
namespace Go.Proofs.Ytkfbcmbemihbnaa.PFnExactShare
open Go.RowKit Go.Proofs.YtkfbcmbemihbnaaW.PrintWords Go.Proofs.YtkfbcmbemihbnaaW.PrintLast Go.Proofs.YtkfbcmbemihbnaaW.PrintMore
attribute [local go_sem] max2_int min2_int max_two min_two max_three min_three max_four min_four   -- for this text's walks alone
set_option linter.unusedVariables false
set_option linter.unusedSimpArgs false

/-! ### spec_l01In: function 73 -/
def spec_l01In.f (a0 : Int) (a1 : Int) (a2 : Int) : Option (Bool) := if a0 ≥ a1 then (some (decide (a0 ≤ a2))) else (some false)
set_option maxHeartbeats 60000000 in
set_option maxRecDepth 100000 in
theorem spec_l01In.calls (a0 : Int) (a1 : Int) (a2 : Int) (r : Bool) (w : World) (h : spec_l01In.f a0 a1 a2 = some r) :
    Calls Try.prog 73 #[.int .i64 a0, .int .i64 a1, .int .i64 a2] w fun e w' => e = .returned (.bool r) ∧ Drawn0 w w' := by
  have H : (if a0 ≥ a1 then (some (decide (a0 ≤ a2))) else (some false)) = some r := h
  clear h
  by_cases c4 : a0 ≥ a1
  · rw [if_pos c4] at H
    have c4b0 : decide (a1 ≤ a0) = true := decide_eq_true c4
    clear c4
    obtain rfl := Option.some.inj H
    go_enter Try.func73, Try.ntmps73
    go_wp2
    go_ret
    exact ⟨by first | rfl | (simp; done) | (simp [*]; done), by repeat (first | exact Drawn0.refl _ | apply Drawn0.step)⟩
  · rw [if_neg c4] at H
    have c4b0 : decide (a1 ≤ a0) = false := decide_eq_false c4
    clear c4
    obtain rfl := Option.some.inj H
    go_enter Try.func73, Try.ntmps73
    go_wp2
    go_ret
    exact ⟨by first | rfl | (simp; done) | (simp [*]; done), by repeat (first | exact Drawn0.refl _ | apply Drawn0.step)⟩

/-! ### spec_l14Sum: function 74 -/
def spec_l14Sum.l0 : Nat → List Int → Int → Int → Option (Int)
  | 0, _, _, _ => none
  | k + 1, x0, x3, x4 => if x4 < (x0.length : Int) then (if 0 ≤ x4 then (spec_l14Sum.l0 k x0 (wrap64 (x3 + (rd x0 x4))) (wrap64 (x4 + 1))) else (none)) else (some x3)
def spec_l14Sum.f (k : Nat) (l0 : List Int) : Option (Int) := spec_l14Sum.l0 k l0 0 0
theorem spec_l14Sum.mono_l : ∀ k, (∀ y0 y1 y2, LeO (spec_l14Sum.l0 k y0 y1 y2) (spec_l14Sum.l0 (k + 1) y0 y1 y2))
  | 0 => fun _ _ _ r h => by simp [spec_l14Sum.l0] at h
  | k + 1 => by
    have ih0 := spec_l14Sum.mono_l k
    · intro y0 y1 y2
      unfold spec_l14Sum.l0
      repeat' first
      | (with_reducible exact ih0 _ _ _)
      | (with_reducible exact LeO.refl _)
      | (with_reducible exact LeO.none _)
      | (with_reducible refine LeO.ite ?_ ?_)
      | (with_reducible refine LeO.bind ?_ (fun _ => ?_))
      | exact ih0 _ _ _
      | exact LeO.none _
      | refine LeO.ite ?_ ?_
      | refine LeO.bind ?_ (fun _ => ?_)
theorem spec_l14Sum.mono : ∀ a0 k, LeO (spec_l14Sum.f k a0) (spec_l14Sum.f (k + 1) a0) := by
  intro a0 k
  have ih0 := spec_l14Sum.mono_l k
  unfold spec_l14Sum.f
  repeat' first
      | (with_reducible exact ih0 _ _ _)
      | (with_reducible exact LeO.refl _)
      | (with_reducible exact LeO.none _)
      | (with_reducible refine LeO.ite ?_ ?_)
      | (with_reducible refine LeO.bind ?_ (fun _ => ?_))
      | exact ih0 _ _ _
      | exact LeO.none _
      | refine LeO.ite ?_ ?_
      | refine LeO.bind ?_ (fun _ => ?_)
set_option maxHeartbeats 60000000 in
set_option maxRecDepth 100000 in
theorem spec_l14Sum.calls (k : Nat) (A0 : Option Addr) (c0 : Nat) (l0 : List Int) (r : Int) (w : World) (hr0 : Kd.C (Kd.int .i64) w A0 l0.length l0) (hc0 : l0.length ≤ c0) (h : spec_l14Sum.f k l0 = some r) :
    Calls Try.prog 74 #[.slice A0 l0.length c0] w fun e w' => e = .returned (.int .i64 r) ∧ Drawn0 w w' := by
  have HR0 := Aside0.mk hr0
  have HC0 := Aside0.mk hc0
  clear hr0 hc0
  have H : (spec_l14Sum.l0 k l0 0 0) = some r := h
  clear h
  have H' := Aside0.mk H
  clear H
  go_enter Try.func74, Try.ntmps74
  go_wp2
  go_loopg [3, 4] k (fun kq v3 v4 w' => ∃ (x3_1 : Int) (x4_1 : Int), v3 = .int .i64 x3_1 ∧ v4 = .int .i64 x4_1 ∧ Aside0 (spec_l14Sum.l0 kq l0 x3_1 x4_1 = some r) ∧ Aside0 (kq ≤ k) ∧ Drawn0 w w')
  case atStart => exact ⟨(0), (0), (by first | rfl | (simp; done) | (simp [*]; done)), (by first | rfl | (simp; done) | (simp [*]; done)), H', ⟨Nat.le_refl _⟩, by repeat (first | exact Drawn0.refl _ | apply Drawn0.step)⟩
  case round =>
    clear H'
    obtain ⟨x3_1, x4_1, rfl, rfl, HA, HK1, ⟨m1, rfl⟩⟩ := hrel
    cases gk with
    | zero => exact absurd HA.out (by simp [spec_l14Sum.l0])
    | succ k1 =>
      have H := HA.out
      clear HA
      simp only [spec_l14Sum.l0] at H
      by_cases c1001 : x4_1 < (l0.length : Int)
      · rw [if_pos c1001] at H
        have c1001b0 : decide (x4_1 < (l0.length : Int)) = true := decide_eq_true c1001
        clear c1001
        by_cases c1002 : 0 ≤ x4_1
        · rw [if_pos c1002] at H
          have c1002b0 : decide (0 ≤ x4_1) = true := decide_eq_true c1002
          clear c1002
          have H' := Aside0.mk H
          clear H
          have p149 : 0 ≤ (x4_1 : Int) := of_decide_eq_true (by first | (with_reducible assumption) | assumption)
          have q149 : x4_1 < (l0.length : Int) := of_decide_eq_true (by first | (with_reducible assumption) | assumption)
          obtain ⟨ad149, e149, hx149_0⟩ := Kd.at_int HR0.out x4_1 p149 q149
          cases e149
          replace p149 := eq_true p149
          replace q149 := eq_true q149
          go_wp2
          go_roundg k1
          case measure => have := HK1.out; omega
          case rel => exact ⟨(wrap64 (x3_1 + (rd l0 x4_1))), (wrap64 (x4_1 + 1)), (by first | rfl | (simp; done) | (simp [*]; done)), (by first | rfl | (simp; done) | (simp [*]; done)), H', ⟨by have := HK1.out; omega⟩, by repeat (first | exact Drawn0.refl _ | apply Drawn0.step)⟩
        · rw [if_neg c1002] at H
          exact absurd H (by simp)
      · rw [if_neg c1001] at H
        have c1001b0 : decide (x4_1 < (l0.length : Int)) = false := decide_eq_false c1001
        clear c1001
        obtain rfl := Option.some.inj H
        go_wp2
        go_ret
        exact ⟨by first | rfl | (simp; done) | (simp [*]; done), by repeat (first | exact Drawn0.refl _ | apply Drawn0.step)⟩

/-! ### spec_l14Min: function 75 -/
def spec_l14Min.f (a0 : Int) (a1 : Int) : Option (Int) := if a0 < a1 then (some a0) else (some a1)
set_option maxHeartbeats 60000000 in
set_option maxRecDepth 100000 in
theorem spec_l14Min.calls (a0 : Int) (a1 : Int) (r : Int) (w : World) (h : spec_l14Min.f a0 a1 = some r) :
    Calls Try.prog 75 #[.int .i64 a0, .int .i64 a1] w fun e w' => e = .returned (.int .i64 r) ∧ Drawn0 w w' := by
  have H : (if a0 < a1 then (some a0) else (some a1)) = some r := h
  clear h
  by_cases c3 : a0 < a1
  · rw [if_pos c3] at H
    have c3b0 : decide (a0 < a1) = true := decide_eq_true c3
    clear c3
    obtain rfl := Option.some.inj H
    go_enter Try.func75, Try.ntmps75
    go_wp2
    go_ret
    exact ⟨by first | rfl | (simp; done) | (simp [*]; done), by repeat (first | exact Drawn0.refl _ | apply Drawn0.step)⟩
  · rw [if_neg c3] at H
    have c3b0 : decide (a0 < a1) = false := decide_eq_false c3
    clear c3
    obtain rfl := Option.some.inj H
    go_enter Try.func75, Try.ntmps75
    go_wp2
    go_ret
    exact ⟨by first | rfl | (simp; done) | (simp [*]; done), by repeat (first | exact Drawn0.refl _ | apply Drawn0.step)⟩

/-! ### spec_l14Max: function 76 -/
def spec_l14Max.f (a0 : Int) (a1 : Int) : Option (Int) := if a0 > a1 then (some a0) else (some a1)
set_option maxHeartbeats 60000000 in
set_option maxRecDepth 100000 in
theorem spec_l14Max.calls (a0 : Int) (a1 : Int) (r : Int) (w : World) (h : spec_l14Max.f a0 a1 = some r) :
    Calls Try.prog 76 #[.int .i64 a0, .int .i64 a1] w fun e w' => e = .returned (.int .i64 r) ∧ Drawn0 w w' := by
  have H : (if a0 > a1 then (some a0) else (some a1)) = some r := h
  clear h
  by_cases c3 : a0 > a1
  · rw [if_pos c3] at H
    have c3b0 : decide (a1 < a0) = true := decide_eq_true c3
    clear c3
    obtain rfl := Option.some.inj H
    go_enter Try.func76, Try.ntmps76
    go_wp2
    go_ret
    exact ⟨by first | rfl | (simp; done) | (simp [*]; done), by repeat (first | exact Drawn0.refl _ | apply Drawn0.step)⟩
  · rw [if_neg c3] at H
    have c3b0 : decide (a1 < a0) = false := decide_eq_false c3
    clear c3
    obtain rfl := Option.some.inj H
    go_enter Try.func76, Try.ntmps76
    go_wp2
    go_ret
    exact ⟨by first | rfl | (simp; done) | (simp [*]; done), by repeat (first | exact Drawn0.refl _ | apply Drawn0.step)⟩

/-! ### spec_Share: function 23 -/
mutual
def spec_Share.j0 : Nat → Int → Int → List Int → Int → Bool → Option ((List (S35)) × Int)
  | 0, _, _, _, _, _ => none
  | k + 1, x0, x1, x2, x3, x30 => if x30 = true then (some (([] : List (S35)), 1)) else (spec_Share.l0 k x0 x1 x2 x3 0)
def spec_Share.l0 : Nat → Int → Int → List Int → Int → Int → Option ((List (S35)) × Int)
  | 0, _, _, _, _, _ => none
  | k + 1, x0, x1, x2, x3, x10 => if x10 < (x2.length : Int) then (if 0 ≤ x10 then ((spec_l01In.f (rd x2 x10) (wrap64 (2 * x0)) 1073741824).bind fun t154 => (if t154 = true then (spec_Share.l0 k x0 x1 x2 x3 (wrap64 (x10 + 1))) else (some (([] : List (S35)), 1)))) else (none)) else (if (x2.length : Int) = 0 then (spec_Share.j2 k x0 x1 x2 x3 true) else (spec_Share.j2 k x0 x1 x2 x3 (decide ((x2.length : Int) > 64))))
def spec_Share.j2 : Nat → Int → Int → List Int → Int → Bool → Option ((List (S35)) × Int)
  | 0, _, _, _, _, _ => none
  | k + 1, x0, x1, x2, x3, x52 => if x52 = true then (some (([] : List (S35)), 8)) else ((some (([] : List Int) : List Int)).bind fun y155 => (if y155.length + x2.length < 17592186044416 then (spec_Share.l1 k x0 x1 x3 (y155 ++ x2) (([] : List (S35))) 0) else (none)))
def spec_Share.l1 : Nat → Int → Int → Int → List Int → List (S35) → Int → Option ((List (S35)) × Int)
  | 0, _, _, _, _, _, _ => none
  | k + 1, x0, x1, x3, x11, x12, x13 => if x13 < x3 then ((spec_l14Sum.f k x11).bind fun t164 => (spec_Share.l2 k x0 x1 x3 x11 x12 x13 (([] : List Int)) 0 (decide (t164 > x1)) ([] : List Int))) else (some (x12, 0))
def spec_Share.l2 : Nat → Int → Int → Int → List Int → List (S35) → Int → List Int → Int → Bool → List Int → Option ((List (S35)) × Int)
  | 0, _, _, _, _, _, _, _, _, _, _ => none
  | k + 1, x0, x1, x3, x11, x12, x13, x15, x16, x166000, x166001 => if x16 < (x11.length : Int) then (if 0 ≤ x16 then ((spec_l14Min.f (wrap64 ((rd x11 x16) + x0)) 1073741824).bind fun t173 => (if x166000 = true then ((spec_l14Max.f (wrap64 (Int.tdiv (rd x11 x16) 2)) (wrap64 (2 * x0))).bind fun t175 => (if x15.length < 17592186044416 then (if x166001.length < 17592186044416 then (spec_Share.l2 k x0 x1 x3 x11 x12 x13 (x15 ++ [t175]) (wrap64 (x16 + 1)) x166000 (x166001 ++ [t175])) else (none)) else (none))) else (if x15.length < 17592186044416 then (if x166001.length < 17592186044416 then (spec_Share.l2 k x0 x1 x3 x11 x12 x13 (x15 ++ [t173]) (wrap64 (x16 + 1)) x166000 (x166001 ++ [t173])) else (none)) else (none)))) else (none)) else (if x12.length < 4398046511104 then (spec_Share.l1 k x0 x1 x3 x15 (x12 ++ [(⟨x166000, x166001⟩ : S35)]) (wrap64 (x13 + 1))) else (none))
end
def spec_Share.f (k : Nat) (a0 : Int) (a1 : Int) (l2 : List Int) (a3 : Int) : Option ((List (S35)) × Int) := (spec_l01In.f a0 1 65535).bind fun t150 => (if t150 = true then ((spec_l01In.f a1 1 1073741824).bind fun t151 => (if t151 = true then ((spec_l01In.f a3 0 2000).bind fun t152 => (spec_Share.j0 k a0 a1 l2 a3 (!t152))) else (spec_Share.j0 k a0 a1 l2 a3 true))) else (spec_Share.j0 k a0 a1 l2 a3 true))
theorem spec_Share.mono_l : ∀ k, (∀ y0 y1 y2 y3 y4, LeO (spec_Share.j0 k y0 y1 y2 y3 y4) (spec_Share.j0 (k + 1) y0 y1 y2 y3 y4)) ∧ (∀ y0 y1 y2 y3 y4, LeO (spec_Share.l0 k y0 y1 y2 y3 y4) (spec_Share.l0 (k + 1) y0 y1 y2 y3 y4)) ∧ (∀ y0 y1 y2 y3 y4, LeO (spec_Share.j2 k y0 y1 y2 y3 y4) (spec_Share.j2 (k + 1) y0 y1 y2 y3 y4)) ∧ (∀ y0 y1 y2 y3 y4 y5, LeO (spec_Share.l1 k y0 y1 y2 y3 y4 y5) (spec_Share.l1 (k + 1) y0 y1 y2 y3 y4 y5)) ∧ (∀ y0 y1 y2 y3 y4 y5 y6 y7 y8 y9, LeO (spec_Share.l2 k y0 y1 y2 y3 y4 y5 y6 y7 y8 y9) (spec_Share.l2 (k + 1) y0 y1 y2 y3 y4 y5 y6 y7 y8 y9))
  | 0 => ⟨fun _ _ _ _ _ r h => by simp [spec_Share.j0] at h, fun _ _ _ _ _ r h => by simp [spec_Share.l0] at h, fun _ _ _ _ _ r h => by simp [spec_Share.j2] at h, fun _ _ _ _ _ _ r h => by simp [spec_Share.l1] at h, fun _ _ _ _ _ _ _ _ _ _ r h => by simp [spec_Share.l2] at h⟩
  | k + 1 => by
    obtain ⟨ih0, ih1, ih2, ih3, ih4⟩ := spec_Share.mono_l k
    refine ⟨?_, ?_, ?_, ?_, ?_⟩
    · intro y0 y1 y2 y3 y4
      unfold spec_Share.j0
      repeat' first
      | (with_reducible exact ih0 _ _ _ _ _)
      | (with_reducible exact ih1 _ _ _ _ _)
      | (with_reducible exact ih2 _ _ _ _ _)
      | (with_reducible exact ih3 _ _ _ _ _ _)
      | (with_reducible exact ih4 _ _ _ _ _ _ _ _ _ _)
      | (with_reducible exact spec_l14Sum.mono _ _)
      | (with_reducible exact LeO.refl _)
      | (with_reducible exact LeO.none _)
      | (with_reducible refine LeO.ite ?_ ?_)
      | (with_reducible refine LeO.bind ?_ (fun _ => ?_))
      | exact ih0 _ _ _ _ _
      | exact ih1 _ _ _ _ _
      | exact ih2 _ _ _ _ _
      | exact ih3 _ _ _ _ _ _
      | exact ih4 _ _ _ _ _ _ _ _ _ _
      | exact spec_l14Sum.mono _ _
      | exact LeO.none _
      | refine LeO.ite ?_ ?_
      | refine LeO.bind ?_ (fun _ => ?_)
    · intro y0 y1 y2 y3 y4
      unfold spec_Share.l0
      repeat' first
      | (with_reducible exact ih0 _ _ _ _ _)
      | (with_reducible exact ih1 _ _ _ _ _)
      | (with_reducible exact ih2 _ _ _ _ _)
      | (with_reducible exact ih3 _ _ _ _ _ _)
      | (with_reducible exact ih4 _ _ _ _ _ _ _ _ _ _)
      | (with_reducible exact spec_l14Sum.mono _ _)
      | (with_reducible exact LeO.refl _)
      | (with_reducible exact LeO.none _)
      | (with_reducible refine LeO.ite ?_ ?_)
      | (with_reducible refine LeO.bind ?_ (fun _ => ?_))
      | exact ih0 _ _ _ _ _
      | exact ih1 _ _ _ _ _
      | exact ih2 _ _ _ _ _
      | exact ih3 _ _ _ _ _ _
      | exact ih4 _ _ _ _ _ _ _ _ _ _
      | exact spec_l14Sum.mono _ _
      | exact LeO.none _
      | refine LeO.ite ?_ ?_
      | refine LeO.bind ?_ (fun _ => ?_)
    · intro y0 y1 y2 y3 y4
      unfold spec_Share.j2
      repeat' first
      | (with_reducible exact ih0 _ _ _ _ _)
      | (with_reducible exact ih1 _ _ _ _ _)
      | (with_reducible exact ih2 _ _ _ _ _)
      | (with_reducible exact ih3 _ _ _ _ _ _)
      | (with_reducible exact ih4 _ _ _ _ _ _ _ _ _ _)
      | (with_reducible exact spec_l14Sum.mono _ _)
      | (with_reducible exact LeO.refl _)
      | (with_reducible exact LeO.none _)
      | (with_reducible refine LeO.ite ?_ ?_)
      | (with_reducible refine LeO.bind ?_ (fun _ => ?_))
      | exact ih0 _ _ _ _ _
      | exact ih1 _ _ _ _ _
      | exact ih2 _ _ _ _ _
      | exact ih3 _ _ _ _ _ _
      | exact ih4 _ _ _ _ _ _ _ _ _ _
      | exact spec_l14Sum.mono _ _
      | exact LeO.none _
      | refine LeO.ite ?_ ?_
      | refine LeO.bind ?_ (fun _ => ?_)
    · intro y0 y1 y2 y3 y4 y5
      unfold spec_Share.l1
      repeat' first
      | (with_reducible exact ih0 _ _ _ _ _)
      | (with_reducible exact ih1 _ _ _ _ _)
      | (with_reducible exact ih2 _ _ _ _ _)
      | (with_reducible exact ih3 _ _ _ _ _ _)
      | (with_reducible exact ih4 _ _ _ _ _ _ _ _ _ _)
      | (with_reducible exact spec_l14Sum.mono _ _)
      | (with_reducible exact LeO.refl _)
      | (with_reducible exact LeO.none _)
      | (with_reducible refine LeO.ite ?_ ?_)
      | (with_reducible refine LeO.bind ?_ (fun _ => ?_))
      | exact ih0 _ _ _ _ _
      | exact ih1 _ _ _ _ _
      | exact ih2 _ _ _ _ _
      | exact ih3 _ _ _ _ _ _
      | exact ih4 _ _ _ _ _ _ _ _ _ _
      | exact spec_l14Sum.mono _ _
      | exact LeO.none _
      | refine LeO.ite ?_ ?_
      | refine LeO.bind ?_ (fun _ => ?_)
    · intro y0 y1 y2 y3 y4 y5 y6 y7 y8 y9
      unfold spec_Share.l2
      repeat' first
      | (with_reducible exact ih0 _ _ _ _ _)
      | (with_reducible exact ih1 _ _ _ _ _)
      | (with_reducible exact ih2 _ _ _ _ _)
      | (with_reducible exact ih3 _ _ _ _ _ _)
      | (with_reducible exact ih4 _ _ _ _ _ _ _ _ _ _)
      | (with_reducible exact spec_l14Sum.mono _ _)
      | (with_reducible exact LeO.refl _)
      | (with_reducible exact LeO.none _)
      | (with_reducible refine LeO.ite ?_ ?_)
      | (with_reducible refine LeO.bind ?_ (fun _ => ?_))
      | exact ih0 _ _ _ _ _
      | exact ih1 _ _ _ _ _
      | exact ih2 _ _ _ _ _
      | exact ih3 _ _ _ _ _ _
      | exact ih4 _ _ _ _ _ _ _ _ _ _
      | exact spec_l14Sum.mono _ _
      | exact LeO.none _
      | refine LeO.ite ?_ ?_
      | refine LeO.bind ?_ (fun _ => ?_)
theorem spec_Share.mono : ∀ a0 a1 a2 a3 k, LeO (spec_Share.f k a0 a1 a2 a3) (spec_Share.f (k + 1) a0 a1 a2 a3) := by
 intro a0 a1 a2 a3 k
 obtain ⟨ih0, ih1, ih2, ih3, ih4⟩ := spec_Share.mono_l k
 unfold spec_Share.f
 repeat' first
     | (with_reducible exact ih0 _ _ _ _ _)
     | (with_reducible exact ih1 _ _ _ _ _)
     | (with_reducible exact ih2 _ _ _ _ _)
     | (with_reducible exact ih3 _ _ _ _ _ _)
     | (with_reducible exact ih4 _ _ _ _ _ _ _ _ _ _)
     | (with_reducible exact spec_l14Sum.mono _ _)
     | (with_reducible exact LeO.refl _)
     | (with_reducible exact LeO.none _)
     | (with_reducible refine LeO.ite ?_ ?_)
     | (with_reducible refine LeO.bind ?_ (fun _ => ?_))
     | exact ih0 _ _ _ _ _
     | exact ih1 _ _ _ _ _
     | exact ih2 _ _ _ _ _
     | exact ih3 _ _ _ _ _ _
     | exact ih4 _ _ _ _ _ _ _ _ _ _
     | exact spec_l14Sum.mono _ _
     | exact LeO.none _
     | refine LeO.ite ?_ ?_
     | refine LeO.bind ?_ (fun _ => ?_)
set_option maxHeartbeats 60000000 in
set_option maxRecDepth 100000 in
theorem spec_Share.calls (k : Nat) (a0 : Int) (a1 : Int) (A2 : Option Addr) (c2 : Nat) (l2 : List Int) (a3 : Int) (r1 : List (S35)) (r2 : Int) (w : World) (hr2 : Kd.C (Kd.int .i64) w A2 l2.length l2) (hc2 : l2.length ≤ c2) (h : spec_Share.f k a0 a1 l2 a3 = some (r1, r2)) :
 Calls Try.prog 23 #[.int .i64 a0, .int .i64 a1, .slice A2 l2.length c2, .int .i64 a3] w fun e w' => ∃ v0_ : Value, e = .returned (.tuple #[v0_, .int .i64 r2]) ∧ Kd.S k35 35 w' w.heap.size (fun _ => True) v0_ r1 ∧ Below w.heap.size w w' := by
 have hu35 := Try.underlying35
 have HR2 := Aside0.mk hr2
 have HC2 := Aside0.mk hc2
 clear hr2 hc2
 have HB := Aside0.mk (Below.refl w.heap.size w)
 have H : ((spec_l01In.f a0 1 65535).bind fun t150 => (if t150 = true then ((spec_l01In.f a1 1 1073741824).bind fun t151 => (if t151 = true then ((spec_l01In.f a3 0 2000).bind fun t152 => (spec_Share.j0 k a0 a1 l2 a3 (!t152))) else (spec_Share.j0 k a0 a1 l2 a3 true))) else (spec_Share.j0 k a0 a1 l2 a3 true))) = some (r1, r2) := h
 clear h
 have HC5 := Aside0.mk H
 clear H
 go_enter Try.func23, Try.ntmps23
 go_upto_region 1 with (fail)
 go_cut [30] (fun v30 wc => ∃ (kq : Nat) (x30_4 : Bool), v30 = .bool x30_4 ∧ Aside0 (spec_Share.j0 kq a0 a1 l2 a3 x30_4 = some (r1, r2)) ∧ Aside0 (kq ≤ k) ∧ Aside0 (Below w.heap.size w wc))
 case first => (
 have H := HC5.out
 clear HC5
 replace H := Option.bind_eq_some_iff.mp H
 obtain ⟨t150, A10010, H⟩ := H
 replace H : (if t150 = true then ((spec_l01In.f a1 1 1073741824).bind fun t151 => (if t151 = true then ((spec_l01In.f a3 0 2000).bind fun t152 => (spec_Share.j0 k a0 a1 l2 a3 (!t152))) else (spec_Share.j0 k a0 a1 l2 a3 true))) else (spec_Share.j0 k a0 a1 l2 a3 true)) = some (r1, r2) := H
 have A1001 := Aside0.mk A10010
 clear A10010
 by_cases c1002 : t150 = true
 subst c1002
 have H1 : ((spec_l01In.f a1 1 1073741824).bind fun t151 => (if t151 = true then ((spec_l01In.f a3 0 2000).bind fun t152 => (spec_Share.j0 k a0 a1 l2 a3 (!t152))) else (spec_Share.j0 k a0 a1 l2 a3 true))) = some (r1, r2) := by rw [if_pos rfl] at H; exact H
 clear H
 have H := H1
 clear H1
 replace H := Option.bind_eq_some_iff.mp H
 obtain ⟨t151, A10030, H⟩ := H
 replace H : (if t151 = true then ((spec_l01In.f a3 0 2000).bind fun t152 => (spec_Share.j0 k a0 a1 l2 a3 (!t152))) else (spec_Share.j0 k a0 a1 l2 a3 true)) = some (r1, r2) := H
 have A1003 := Aside0.mk A10030
 clear A10030
 by_cases c1004 : t151 = true
 subst c1004
 have H1 : ((spec_l01In.f a3 0 2000).bind fun t152 => (spec_Share.j0 k a0 a1 l2 a3 (!t152))) = some (r1, r2) := by rw [if_pos rfl] at H; exact H
 clear H
 have H := H1
 clear H1
 replace H := Option.bind_eq_some_iff.mp H
 obtain ⟨t152, A10050, H⟩ := H
 replace H : (spec_Share.j0 k a0 a1 l2 a3 (!t152)) = some (r1, r2) := H
 have A1005 := Aside0.mk A10050
 clear A10050
 have H' := Aside0.mk H
 clear H
 rotate_left
 replace c1004 := Bool.eq_false_iff.mpr c1004
 subst c1004
 have H1 : (spec_Share.j0 k a0 a1 l2 a3 true) = some (r1, r2) := by rw [if_neg (show ¬ (false = true) by decide)] at H; exact H
 clear H
 have H := H1
 clear H1
 have H' := Aside0.mk H
 clear H
 rotate_left
 replace c1002 := Bool.eq_false_iff.mpr c1002
 subst c1002
 have H1 : (spec_Share.j0 k a0 a1 l2 a3 true) = some (r1, r2) := by rw [if_neg (show ¬ (false = true) by decide)] at H; exact H
 clear H
 have H := H1
 clear H1
 have H' := Aside0.mk H
 clear H
 rotate_left
 all_goals (
 go_wp2_with (first | ((with_reducible refine gate_callee (f := 73) rfl ?_); refine goesL_ (some 19) rfl rfl Try.func73 (by kernel_rfl) rfl #[.int .i64 a0, .int .i64 1, .int .i64 65535] rfl wT ?_; (with_reducible refine (spec_l01In.calls a0 1 65535 _ _ A1001.out).mono ?_); rintro e w' ⟨rfl, ⟨nd, rfl⟩⟩; refine ⟨_, rfl, ?_⟩) | (go_at_call 73; (with_reducible refine (spec_l01In.calls a1 1 1073741824 _ _ A1003.out).mono ?_); rintro e w' ⟨rfl, ⟨nd, rfl⟩⟩) | (go_at_call 73; (with_reducible refine (spec_l01In.calls a3 0 2000 t152 _ A1005.out).mono ?_); rintro e w' ⟨rfl, ⟨nd, rfl⟩⟩))
 go_meet
 )
 {
 case rel => exact ⟨_, (!t152), (by first | rfl | (simp; done) | (simp [*]; done)), H', ⟨by first | omega | exact Nat.le_refl _⟩, ⟨wB⟩⟩
 }
 all_goals (
 case rel => exact ⟨_, (true), (by first | rfl | (simp; done) | (simp [*]; done)), H', ⟨by first | omega | exact Nat.le_refl _⟩, ⟨wB⟩⟩
 )
 )
 case rest => (
 clear HC5
 try clear c1002
 try clear c1004
 obtain ⟨kq, x30_4, rfl, HA, HJ4, HB⟩ := hcut
 cases kq with
 | zero => exact absurd HA.out (by simp [spec_Share.j0])
 | succ kj4 => {
 have H := HA.out
 clear HA
 simp only [spec_Share.j0] at H
 by_cases c1006 : x30_4 = true
 {
 subst c1006
 have H1 : (some (([] : List (S35)), 1)) = some (r1, r2) := by rw [if_pos rfl] at H; exact H
 clear H
 have H := H1
 clear H1
 simp only [Option.some.injEq, Prod.mk.injEq] at H
 obtain ⟨rfl, rfl⟩ := H
 go_wp2
 go_ret2
 exact ⟨_, by first | rfl | (simp [errW_none, errW_some] <;> rfl) | (simp [*, errW_none, errW_some] <;> rfl), by first | exact Kd.S_nil _ _ _ _ _ | exact Kd.N_nil _ _ _ _ _ | exact Kd.V_nil _ _ _ _ _ | exact Kd.Q_nil _ _ _ _ _ | exact Kd.R_nil _ _ _ _ _, wB⟩
 }
 {
 replace c1006 := Bool.eq_false_iff.mpr c1006
 subst c1006
 have H1 : (spec_Share.l0 kj4 a0 a1 l2 a3 0) = some (r1, r2) := by rw [if_neg (show ¬ (false = true) by decide)] at H; exact H
 clear H
 have H := H1
 clear H1
 have H' := Aside0.mk H
 clear H
 go_wp2
 go_loopg [10] kj4 (fun kq v10 w' => ∃ (x10_2 : Int), v10 = .int .i64 x10_2 ∧ Aside0 (spec_Share.l0 kq a0 a1 l2 a3 x10_2 = some (r1, r2)) ∧ Aside0 (kq ≤ kj4) ∧ Aside0 (Below w.heap.size w w'))
 case atStart => exact ⟨(0), (by first | rfl | (simp; done) | (simp [*]; done)), H', ⟨Nat.le_refl _⟩, ⟨wB⟩⟩
 case round => (
 clear H'
 try clear c1002
 try clear c1004
 try clear c1006
 obtain ⟨x10_2, rfl, HA, HK2, HB⟩ := hrel
 cases gk with
 | zero => exact absurd HA.out (by simp [spec_Share.l0])
 | succ k2 => {
 have H := HA.out
 clear HA
 simp only [spec_Share.l0] at H
 by_cases c2001 : x10_2 < (l2.length : Int)
 rw [if_pos c2001] at H
 have c2001b0 : decide (x10_2 < (l2.length : Int)) = true := decide_eq_true c2001
 clear c2001
 by_cases c2002 : 0 ≤ x10_2
 rw [if_pos c2002] at H
 have c2002b0 : decide (0 ≤ x10_2) = true := decide_eq_true c2002
 clear c2002
 replace H := Option.bind_eq_some_iff.mp H
 obtain ⟨t154, A20030, H⟩ := H
 replace H : (if t154 = true then (spec_Share.l0 k2 a0 a1 l2 a3 (wrap64 (x10_2 + 1))) else (some (([] : List (S35)), 1))) = some (r1, r2) := H
 have A2003 := Aside0.mk A20030
 clear A20030
 by_cases c2004 : t154 = true
 subst c2004
 have H1 : (spec_Share.l0 k2 a0 a1 l2 a3 (wrap64 (x10_2 + 1))) = some (r1, r2) := by rw [if_pos rfl] at H; exact H
 clear H
 have H := H1
 clear H1
 have H' := Aside0.mk H
 clear H
 have bq1_ : True := trivial
 rotate_left
 replace c2004 := Bool.eq_false_iff.mpr c2004
 subst c2004
 have H1 : (some (([] : List (S35)), 1)) = some (r1, r2) := by rw [if_neg (show ¬ (false = true) by decide)] at H; exact H
 clear H
 have H := H1
 clear H1
 simp only [Option.some.injEq, Prod.mk.injEq] at H
 obtain ⟨rfl, rfl⟩ := H
 rotate_left
 rw [if_neg c2002] at H
 exact absurd H (by simp)
 rw [if_neg c2001] at H
 have c2001b0 : decide (x10_2 < (l2.length : Int)) = false := decide_eq_false c2001
 clear c2001
 have HC2005 := Aside0.mk H
 clear H
 rotate_left
 iterate 2 (
 focus (
 have p153 : 0 ≤ (x10_2 : Int) := of_decide_eq_true (by first | (with_reducible assumption) | assumption)
 have q153 : x10_2 < (l2.length : Int) := of_decide_eq_true (by first | (with_reducible assumption) | assumption)
 obtain ⟨ad153, e153, hx153_0⟩ := Kd.at_int HR2.out x10_2 p153 q153
 cases e153
 replace hx153_0 := (HB.out.cell (World.block_lt_of_cell? w _ hx153_0)).trans hx153_0
 replace p153 := eq_true p153
 replace q153 := eq_true q153
 go_wp2_with (first | ((with_reducible refine gate_callee (f := 73) rfl ?_); refine goesL_ (some 43) rfl rfl Try.func73 (by kernel_rfl) rfl #[.int .i64 (rd l2 x10_2), .int .i64 (wrap64 (2 * a0)), .int .i64 1073741824] rfl wT ?_; (with_reducible refine (spec_l01In.calls (rd l2 x10_2) (wrap64 (2 * a0)) 1073741824 (by first | (clear bq1_; exact true) | exact false) _ A2003.out).mono ?_); rintro e w' ⟨rfl, ⟨nd, rfl⟩⟩; refine ⟨_, rfl, ?_⟩))
 )
 rotate_left
 )
 rotate_right 2
 {
 go_roundg k2
 case measure => have := HJ4.out; have := HK2.out; omega
 case rel => exact ⟨(wrap64 (x10_2 + 1)), (by first | rfl | (simp; done) | (simp [*]; done)), H', ⟨by have := HJ4.out; have := HK2.out; omega⟩, ⟨wB⟩⟩
 }
 {
 go_ret2
 exact ⟨_, by first | rfl | (simp [errW_none, errW_some] <;> rfl) | (simp [*, errW_none, errW_some] <;> rfl), by first | exact Kd.S_nil _ _ _ _ _ | exact Kd.N_nil _ _ _ _ _ | exact Kd.V_nil _ _ _ _ _ | exact Kd.Q_nil _ _ _ _ _ | exact Kd.R_nil _ _ _ _ _, wB⟩
 }
 {
 go_upto_region 8 with (fail)
 go_cut [52] (fun v52 wc => ∃ (kq : Nat) (x52_2004 : Bool), v52 = .bool x52_2004 ∧ Aside0 (spec_Share.j2 kq a0 a1 l2 a3 x52_2004 = some (r1, r2)) ∧ Aside0 (kq ≤ k2) ∧ Aside0 (Below w.heap.size w wc))
 case first => (
 have H := HC2005.out
 clear HC2005
 by_cases c3001 : (l2.length : Int) = 0
 {
 rw [if_pos c3001] at H
 have c3001b0 : ((l2.length : Int) == 0) = true := beq_iff_eq.mpr c3001
 have c3001b1 : ((l2.length : Int) != 0) = false := bne_eq_false_iff_eq.mpr c3001
 clear c3001
 (first | rw [c3001b0] | rw [c3001b1] | (simp only [i64_w, i32_w]; rw [c3001b0]) | skip)
 have H' := Aside0.mk H
 clear H
 go_wp2
 go_meet
 case rel => exact ⟨_, (true), (by first | rfl | (simp; done) | (simp [*]; done)), H', ⟨by have := HJ4.out; have := HK2.out; first | omega | exact Nat.le_refl _⟩, ⟨wB⟩⟩
 }
 {
 rw [if_neg c3001] at H
 have c3001b0 : ((l2.length : Int) == 0) = false := beq_eq_false_iff_ne.mpr c3001
 have c3001b1 : ((l2.length : Int) != 0) = true := bne_iff_ne.mpr c3001
 have c3001b2 : ¬ (l2 = []) := fun h_ => c3001 (by rw [h_]; rfl)
 (first | rw [c3001b0] | rw [c3001b1] | (simp only [i64_w, i32_w]; rw [c3001b0]) | skip)
 have H' := Aside0.mk H
 clear H
 go_wp2
 go_meet
 case rel => exact ⟨_, (decide ((l2.length : Int) > 64)), (by first | rfl | (simp; done) | (simp [*]; done)), H', ⟨by have := HJ4.out; have := HK2.out; first | omega | exact Nat.le_refl _⟩, ⟨wB⟩⟩
 }
 )
 case rest => (
 clear HC2005
 try clear p153
 try clear q153
 try clear hx153
 try clear c1002
 try clear c1004
 try clear c1006
 try clear c2001
 try clear c2001b0
 try clear c2002
 try clear c2002b0
 try clear c2004
 try clear c3001
 try clear c3001b0
 try clear c3001b1
 try clear c3001b2
 try clear hx153_0
 try clear p153
 try clear q153
 obtain ⟨kq, x52_2004, rfl, HA, HJ2004, HB⟩ := hcut
 cases kq with
 | zero => exact absurd HA.out (by simp [spec_Share.j2])
 | succ kj2004 => {
 have H := HA.out
 clear HA
 simp only [spec_Share.j2] at H
 by_cases c3002 : x52_2004 = true
 {
 subst c3002
 have H1 : (some (([] : List (S35)), 8)) = some (r1, r2) := by rw [if_pos rfl] at H; exact H
 clear H
 have H := H1
 clear H1
 simp only [Option.some.injEq, Prod.mk.injEq] at H
 obtain ⟨rfl, rfl⟩ := H
 go_wp2
 go_ret2
 exact ⟨_, by first | rfl | (simp [errW_none, errW_some] <;> rfl) | (simp [*, errW_none, errW_some] <;> rfl), by first | exact Kd.S_nil _ _ _ _ _ | exact Kd.N_nil _ _ _ _ _ | exact Kd.V_nil _ _ _ _ _ | exact Kd.Q_nil _ _ _ _ _ | exact Kd.R_nil _ _ _ _ _, wB⟩
 }
 {
 replace c3002 := Bool.eq_false_iff.mpr c3002
 subst c3002
 have H1 : ((some (([] : List Int) : List Int)).bind fun y155 => (if y155.length + l2.length < 17592186044416 then (spec_Share.l1 kj2004 a0 a1 a3 (y155 ++ l2) (([] : List (S35))) 0) else (none))) = some (r1, r2) := by rw [if_neg (show ¬ (false = true) by decide)] at H; exact H
 clear H
 have H := H1
 clear H1
 obtain ⟨y155, hy155⟩ : ∃ y_ : List Int, y_ = (([] : List Int)) := ⟨_, rfl⟩
 replace H : (if y155.length + l2.length < 17592186044416 then (spec_Share.l1 kj2004 a0 a1 a3 (y155 ++ l2) (([] : List (S35))) 0) else (none)) = some (r1, r2) := by first | (rw [hy155]; with_reducible exact H) | (have H2_ := (Option.bind_some _ _).symm.trans H; rw [hy155]; with_reducible exact H2_) | (have H2_ := (Option.bind_some _ _).symm.trans H; with_reducible exact H2_) | with_reducible exact H | (rw [hy155]; exact H) | exact H
 have Ny155 := Aside0.mk hy155
 clear hy155
 by_cases c3003 : y155.length + l2.length < 17592186044416
 {
 rw [if_pos c3003] at H
 have LMc3003 := Aside0.mk c3003
 clear c3003
 obtain ⟨y158, hy158⟩ : ∃ y_ : List Int, y_ = (y155 ++ l2) := ⟨_, rfl⟩
 replace H : (spec_Share.l1 kj2004 a0 a1 a3 y158 (([] : List (S35))) 0) = some (r1, r2) := by first | (rw [hy158]; with_reducible exact H) | (have H2_ := (Option.bind_some _ _).symm.trans H; rw [hy158]; with_reducible exact H2_) | (have H2_ := (Option.bind_some _ _).symm.trans H; with_reducible exact H2_) | with_reducible exact H | (rw [hy158]; exact H) | exact H
 have Ny158 := Aside0.mk hy158
 clear hy158
 obtain ⟨y161, hy161⟩ : ∃ y_ : List (S35), y_ = (([] : List (S35))) := ⟨_, rfl⟩
 replace H : (spec_Share.l1 kj2004 a0 a1 a3 y158 y161 0) = some (r1, r2) := by first | (rw [hy161]; with_reducible exact H) | (have H2_ := (Option.bind_some _ _).symm.trans H; rw [hy161]; with_reducible exact H2_) | (have H2_ := (Option.bind_some _ _).symm.trans H; with_reducible exact H2_) | with_reducible exact H | (rw [hy161]; exact H) | exact H
 have Ny161 := Aside0.mk hy161
 clear hy161
 have H' := Aside0.mk H
 clear H
 go_wp2_with (first | ((with_reducible refine gate_dst (N := 53) rfl ?_); (try (refine gate_guard (by rfl) ?_; dsimp only)); refine Kd.R_lit (Kd.int .i64) _ 2 ?hg (N := 53) ?hd (xs := ([] : List Int)) (inner := []) (ok := fun _ => True) (okp := fun _ => True) ?hr ?hp (fun _ hk => hk) trivial (Below.refl _ _) (Nat.le_refl _) (by simp) ?_; (case hd => rfl); (case hg => rfl); (case hr => first | (go_simp; done) | (go_simp; rfl)); (case hp => exact (Reps.none _ _)); intro v156 w4001 ho4002 hb hg_ hnew_; clear hg_ hnew_; (first | rw [← Ny155.out] at ho4002 | (simp only [Int.reduceToNat] at ho4002; rw [← Ny155.out] at ho4002)); have n0_ := Aside0.mk (Kd.R_lower ho4002 (below_size wB)); have n1_ := Aside0.mk (below_step wB hb); clear HB; have HO157 := n0_; have HB := n1_; clear n0_ n1_; clear hb ho4002) | ((with_reducible refine gate_builtin (b := .append) (xs := #[.tmp 53, .tmp 54]) rfl ?_); (try (refine gate_guard (by rfl) ?_; dsimp only)); at_builtin; refine Kd.R_append_rows (Kd.int .i64) (w0 := w) w.heap.size rfl (.tmp 53) (.tmp 54) 29 2 (.int .i64 0) 8 rfl Try.underlying29 info2 rfl (by decide) (by omega) v156 y155 l2 _ _ _ (fun _ => True) (fun _ => False) rfl rfl ?aO ?aR (fun _ _ h => h) (fun _ h => h.elim) ?aF ?aB ?aS ?aL ?_; (case aR => exact Kd.C_below HR2.out wB); (case aB => exact wB); (case aF => exact (fun _ _ => trivial)); (case aO => exact (Rh HO157)); (case aS => exact (below_size wB)); (case aL => have := LMc3003.out; omega); intro v159 w4003 ho hb hg hat; rw [← Ny158.out] at ho; have n0_ := Aside0.mk (hb); have n1_ := Aside0.mk (ho); clear HB; clear HO157; have HB := n0_; have HO160 := n1_; clear n0_ n1_; clear ho hb hg hat) | ((with_reducible refine gate_dst (N := 56) rfl ?_); (try (refine gate_guard (by rfl) ?_; dsimp only)); refine Kd.S_lit k35 _ 35 ?hg (N := 56) ?hd (xs := ([] : List (S35))) (inner := []) (ok := fun _ => True) (okp := fun _ => True) ?hr ?hp (fun _ hk => hk) trivial (Below.refl _ _) (Nat.le_refl _) (by simp) ?_; (case hd => rfl); (case hg => rfl); (case hr => first | (go_simp; done) | (go_simp; rfl)); (case hp => exact (Reps.none _ _)); intro v162 w4004 ho4005 hb hg_ hnew_; clear hg_ hnew_; (first | rw [← Ny161.out] at ho4005 | (simp only [Int.reduceToNat] at ho4005; rw [← Ny161.out] at ho4005)); have n0_ := Aside0.mk (Kd.R_below (Rh HO160) hb); have n1_ := Aside0.mk (Kd.S_lower (Kd.S_new' ho4005 (Kd.R_lt (Rh HO160))) (below_size wB)); have n2_ := Aside0.mk (below_step wB hb); clear HO160; clear HB; have HO160 := n0_; have HO163 := n1_; have HB := n2_; clear n0_ n1_ n2_; clear hb ho4005))
 go_loopg [11, 12, 13] kj2004 (fun kq v11 v12 v13 w' => ∃ (x11_4 : List Int) (x12_4 : List (S35)) (x13_4 : Int), v13 = .int .i64 x13_4 ∧ Aside0 (spec_Share.l1 kq a0 a1 a3 x11_4 x12_4 x13_4 = some (r1, r2)) ∧ Aside0 (kq ≤ kj2004) ∧ Aside0 (Kd.R (Kd.int .i64) 2 w' w.heap.size (fun _ => True) v11 x11_4) ∧ Aside0 (Kd.S k35 35 w' w.heap.size (fun k_ => some k_ ≠ (v11 : Value).ownBlock) v12 x12_4) ∧ Aside0 (Below w.heap.size w w'))
 case atStart => exact ⟨(y158), (y161), (0), (by first | rfl | (simp; done) | (simp [*]; done)), H', ⟨Nat.le_refl _⟩, ⟨Rh HO160⟩, ⟨Kd.S_mono (Sh HO163) (fun _ hk => hk.2)⟩, ⟨wB⟩⟩
 case round => (
 clear H'
 try clear p153
 try clear q153
 try clear hx153
 try clear c1002
 try clear c1004
 try clear c1006
 try clear c2001
 try clear c2001b0
 try clear c2002
 try clear c2002b0
 try clear c2004
 try clear c3001
 try clear c3001b0
 try clear c3001b1
 try clear c3001b2
 try clear c3002
 try clear c3003
 try clear hx153_0
 try clear p153
 try clear q153
 obtain ⟨x11_4, x12_4, x13_4, rfl, HA, HK4, HO_11, HO_12, HB⟩ := hrel
 cases gk with
 | zero => exact absurd HA.out (by simp [spec_Share.l1])
 | succ k4 => {
 have H := HA.out
 clear HA
 simp only [spec_Share.l1] at H
 by_cases c4006 : x13_4 < a3
 {
 rw [if_pos c4006] at H
 have c4006b0 : decide (x13_4 < a3) = true := decide_eq_true c4006
 clear c4006
 replace H := Option.bind_eq_some_iff.mp H
 obtain ⟨t164, A40070, H⟩ := H
 replace H : (spec_Share.l2 k4 a0 a1 a3 x11_4 x12_4 x13_4 (([] : List Int)) 0 (decide (t164 > a1)) ([] : List Int)) = some (r1, r2) := H
 have A4007 := Aside0.mk A40070
 clear A40070
 obtain ⟨y166, hy166⟩ : ∃ y_ : List Int, y_ = (([] : List Int)) := ⟨_, rfl⟩
 replace H : (spec_Share.l2 k4 a0 a1 a3 x11_4 x12_4 x13_4 y166 0 (decide (t164 > a1)) ([] : List Int)) = some (r1, r2) := by first | (rw [hy166]; with_reducible exact H) | (have H2_ := (Option.bind_some _ _).symm.trans H; rw [hy166]; with_reducible exact H2_) | (have H2_ := (Option.bind_some _ _).symm.trans H; with_reducible exact H2_) | with_reducible exact H | (rw [hy166]; exact H) | exact H
 have Ny166 := Aside0.mk hy166
 clear hy166
 have H' := Aside0.mk H
 clear H
 obtain ⟨Ao5001, co5001, eo5001⟩ := Kd.R_slice HO_11.out
 subst eo5001
 go_wp2_with (first | ((with_reducible refine gate_callee (f := 74) rfl ?_); refine goesL_ (some 63) rfl rfl Try.func74 (by kernel_rfl) rfl #[.slice Ao5001 x11_4.length co5001] rfl wT ?_; (with_reducible refine (spec_l14Sum.calls k4 _ _ x11_4 t164 _ ?side1 ?side2 A4007.out).mono ?_); (case side1 => exact Ch HO_11); (case side2 => exact (Kd.R_reads' HO_11.out).2.1); rintro e w' ⟨rfl, ⟨nd, rfl⟩⟩; refine ⟨_, rfl, ?_⟩; (try (rw [drewN_self wr]; generalize hq_ : World.drewN wr _ = wr; have n0_ := Aside0.mk (Kd.R_at hq_ HO_11.out); have n1_ := Aside0.mk (Kd.S_at hq_ HO_12.out); have n2_ := Aside0.mk (below_at hq_ HB.out); clear hq_ HO_11 HO_12 HB; have HO_11 := n0_; have HO_12 := n1_; have HB := n2_; clear n0_ n1_ n2_))) | ((with_reducible refine gate_dst (N := 14) rfl ?_); (try (refine gate_guard (by rfl) ?_; dsimp only)); refine box_event ?hg (N := 14) ?hd (cs := #[.bool false, .slice none 0 0]) (t := 35) ?hr ?_; (case hd => rfl); (case hg => rfl); (case hr => first | (go_simp; done) | (go_simp; rfl)); intro gb165 hg w5002 hbox hb; have n0_ := Aside0.mk (Kd.R_below (Rh HO_11) hb); have n1_ := Aside0.mk (Kd.S_below (Kd.S_elderB (Sh HO_12) gb165 (Nat.le_of_eq hg.symm)) hb); have n2_ := Aside0.mk (below_step wB hb); have n3_ := Aside0.mk (hbox); have n4_ := Aside0.mk ((by rw [hg]; exact (below_size wB) : w.heap.size ≤ gb165)); have n5_ := Aside0.mk ((by rw [hg]; exact (below_size wB) : w.heap.size ≤ gb165)); clear HO_11; clear HO_12; clear HB; have HO_11 := n0_; have HO_12 := n1_; have HB := n2_; have BK165 := n3_; have GW165 := n4_; have GE165 := n5_; clear n0_ n1_ n2_ n3_ n4_ n5_; clear hb hbox hg; obtain ⟨⟨hcz5003_0, hcz5003_1⟩, hfz5003_0, hfz5003_1⟩ := cells2 BK165.out) | ((with_reducible refine gate_store (t := 35) (p := 14) rfl ?_); refine store_event (t := 35) (p := 14) (v := ?_) (w1 := ((w5002.setCell ⟨gb165, 0, none⟩ (.bool (decide (t164 > a1)))).setCell ⟨gb165, 1, none⟩ (.slice none 0 0))) ?hg ?ho ?hn ?hr ?_; (case ho => rfl); (case hg => rfl); (case hn => rfl); (case hr => first | (go_simp; done) | (go_simp; rfl)); intro w5004 hw; have n0_ : Aside0 (Kd.R (Kd.int .i64) 2 w5004 w.heap.size (fun _ => True) (.slice Ao5001 x11_4.length co5001) x11_4) := ⟨(by rw [hw]; exact (by (with_reducible repeat (first | apply Kd.R_alloc | apply Kd.R_drewN | apply Kd.R_drew)); exact Kd.R_mono (Kd.R_far (p := ⟨gb165, 1, none⟩) (Kd.R_far (p := ⟨gb165, 0, none⟩) (Kd.R_types HO_11.out BK165.out (by decide)) (fun _ hk => hk.2) (.bool (decide (t164 > a1)))) (fun _ hk => hk.2) (.slice none 0 0)) (fun _ hk => trivial)))⟩; have n1_ : Aside0 (Kd.S k35 35 w5004 w.heap.size (fun k_ => some k_ ≠ (.slice Ao5001 x11_4.length co5001 : Value).ownBlock ∧ k_ ≠ gb165) u12 x12_4) := ⟨(by rw [hw]; exact (by (with_reducible repeat (first | apply Kd.S_alloc | apply Kd.S_drewN | apply Kd.S_drew)); exact Kd.S_mono (Kd.S_far (p := ⟨gb165, 1, none⟩) (Kd.S_far (p := ⟨gb165, 0, none⟩) (Kd.S_mono HO_12.out (fun k_ hk => (⟨hk, hk.2⟩ : _ ∧ k_ ≠ gb165))) (fun _ hk => hk.2) (.bool (decide (t164 > a1)))) (fun _ hk => hk.2) (.slice none 0 0)) (fun _ hk => ⟨hk.1.1, hk.1.2⟩)))⟩; have n2_ : Aside0 (w5004.heap[gb165]? = some (.cells #[.bool (decide (t164 > a1)), .slice none 0 0] 35 (0, 0))) := ⟨(by rw [hw]; exact (by (with_reducible repeat (first | refine blk_drewN ?_ _ | refine blk_drew ?_ | refine blk_alloc ?_ _)); refine blk_put (cs := #[.bool (decide (t164 > a1)), .slice none 0 0]) ?_ 1 _ rfl; (with_reducible repeat (first | refine blk_drewN ?_ _ | refine blk_drew ?_ | refine blk_alloc ?_ _)); refine blk_put (cs := #[.bool false, .slice none 0 0]) ?_ 0 _ rfl; (with_reducible repeat (first | refine blk_drewN ?_ _ | refine blk_drew ?_ | refine blk_alloc ?_ _)); exact BK165.out))⟩; have n3_ : Aside0 (Below w.heap.size w w5004) := ⟨(by rw [hw]; exact wB)⟩; clear hw; clear HO_11; clear HO_12; clear BK165; clear HB; have HO_11 := n0_; have HO_12 := n1_; have BK165 := n2_; have HB := n3_; clear n0_ n1_ n2_ n3_) | ((with_reducible refine gate_dst (N := 67) rfl ?_); (try (refine gate_guard (by rfl) ?_; dsimp only)); refine Kd.R_lit (Kd.int .i64) _ 2 ?hg (N := 67) ?hd (xs := ([] : List Int)) (inner := []) (ok := fun _ => True) (okp := fun _ => True) ?hr ?hp (fun _ hk => hk) trivial (Below.refl _ _) (Nat.le_refl _) (by simp) ?_; (case hd => rfl); (case hg => rfl); (case hr => first | (go_simp; done) | (go_simp; rfl)); (case hp => exact (Reps.none _ _)); intro v167 w5005 ho5006 hb hg_ hnew_; clear hg_ hnew_; (first | rw [← Ny166.out] at ho5006 | (simp only [Int.reduceToNat] at ho5006; rw [← Ny166.out] at ho5006)); have n0_ := Aside0.mk (Kd.R_elder' (Rh HO_11) (Kd.R_base ho5006) hb); have n1_ := Aside0.mk (Kd.S_elder' (Sh HO_12) (Kd.R_base ho5006) hb); have n2_ := Aside0.mk (Kd.R_lower (Kd.R_new' ho5006 (Kd.R_lt (Rh HO_11))) (below_size wB)); have n3_ := Aside0.mk (blk_below (Bh BK165) hb); have n4_ := Aside0.mk (below_step wB hb); clear HO_11; clear HO_12; clear BK165; clear HB; have HO_11 := n0_; have HO_12 := n1_; have HO168 := n2_; have BK165 := n3_; have HB := n4_; clear n0_ n1_ n2_ n3_ n4_; clear hb ho5006))
 generalize hbL5007 : (decide (t164 > a1)) = bL5007 at *
 go_loopg [15, 16] k4 (fun kq v15 v16 w' => ∃ (x15_5 : List Int) (x16_5 : Int) (x166001_5 : List Int) (u166001 : Value), v16 = .int .i64 x16_5 ∧ Aside0 (spec_Share.l2 kq a0 a1 a3 x11_4 x12_4 x13_4 x15_5 x16_5 bL5007 x166001_5 = some (r1, r2)) ∧ Aside0 (kq ≤ k4) ∧ Aside0 (Kd.R (Kd.int .i64) 2 w' w.heap.size (fun k_ => some k_ ≠ (v15 : Value).ownBlock ∧ some k_ ≠ (u166001 : Value).ownBlock) (.slice Ao5001 x11_4.length co5001) x11_4) ∧ Aside0 (Kd.S k35 35 w' w.heap.size (fun k_ => some k_ ≠ ((.slice Ao5001 x11_4.length co5001) : Value).ownBlock ∧ some k_ ≠ (v15 : Value).ownBlock ∧ some k_ ≠ (u166001 : Value).ownBlock ∧ k_ ≠ gb165) u12 x12_4) ∧ Aside0 (Kd.R (Kd.int .i64) 2 w' w.heap.size (fun k_ => some k_ ≠ ((.slice Ao5001 x11_4.length co5001) : Value).ownBlock ∧ some k_ ≠ (u166001 : Value).ownBlock) v15 x15_5) ∧ Aside0 (Kd.R (Kd.int .i64) 2 w' w.heap.size (fun k_ => some k_ ≠ ((.slice Ao5001 x11_4.length co5001) : Value).ownBlock ∧ some k_ ≠ (v15 : Value).ownBlock) u166001 x166001_5) ∧ Aside0 (w'.heap[gb165]? = some (.cells #[.bool bL5007, u166001] 35 (0, 0))) ∧ Aside0 (Below w.heap.size w w'))
 case atStart => exact ⟨(y166), (0), (([] : List Int)), (.slice none 0 0), (by first | rfl | (simp; done) | (simp [*]; done)), H', ⟨Nat.le_refl _⟩, ⟨Kd.R_mono (Rh HO_11) (fun _ hk => ⟨hk.2, (by simp [Value.ownBlock])⟩)⟩, ⟨Kd.S_mono (Sh HO_12) (fun _ hk => ⟨hk.1.1, ⟨hk.2, ⟨(by simp [Value.ownBlock]), hk.1.2⟩⟩⟩)⟩, ⟨Kd.R_mono (Rh HO168) (fun _ hk => ⟨hk.2, (by simp [Value.ownBlock])⟩)⟩, ⟨by first | exact Kd.R_nil _ _ _ _ _ | exact Kd.N_nil _ _ _ _ _ | exact Kd.V_nil _ _ _ _ _ | exact Kd.Q_nil _ _ _ _ _ | exact Kd.S_nil _ _ _ _ _⟩, ⟨Bh BK165⟩, ⟨wB⟩⟩
 case round => (
 clear H'
 try clear p153
 try clear q153
 try clear hx153
 try clear c1002
 try clear c1004
 try clear c1006
 try clear c2001
 try clear c2001b0
 try clear c2002
 try clear c2002b0
 try clear c2004
 try clear c3001
 try clear c3001b0
 try clear c3001b1
 try clear c3001b2
 try clear c3002
 try clear c3003
 try clear c4006
 try clear c4006b0
 try clear hcz5003_0 hcz5003_1 hfz5003_0 hfz5003_1
 try clear hx153_0
 try clear p153
 try clear q153
 obtain ⟨x15_5, x16_5, x166001_5, u166001, rfl, HA, HK5, HO_11, HO_12, HO_15, HO_166001, BK165, HB⟩ := hrel
 cases gk with
 | zero => exact absurd HA.out (by simp [spec_Share.l2])
 | succ k5 => {
 have H := HA.out
 clear HA
 simp only [spec_Share.l2] at H
 by_cases c5008 : x16_5 < (x11_4.length : Int)
 {
 rw [if_pos c5008] at H
 have c5008b0 : decide (x16_5 < (x11_4.length : Int)) = true := decide_eq_true c5008
 clear c5008
 by_cases c5009 : 0 ≤ x16_5
 {
 rw [if_pos c5009] at H
 have c5009b0 : decide (0 ≤ x16_5) = true := decide_eq_true c5009
 clear c5009
 replace H := Option.bind_eq_some_iff.mp H
 obtain ⟨t173, A50100, H⟩ := H
 replace H : (if bL5007 = true then ((spec_l14Max.f (wrap64 (Int.tdiv (rd x11_4 x16_5) 2)) (wrap64 (2 * a0))).bind fun t175 => (if x15_5.length < 17592186044416 then (if x166001_5.length < 17592186044416 then (spec_Share.l2 k5 a0 a1 a3 x11_4 x12_4 x13_4 (x15_5 ++ [t175]) (wrap64 (x16_5 + 1)) bL5007 (x166001_5 ++ [t175])) else (none)) else (none))) else (if x15_5.length < 17592186044416 then (if x166001_5.length < 17592186044416 then (spec_Share.l2 k5 a0 a1 a3 x11_4 x12_4 x13_4 (x15_5 ++ [t173]) (wrap64 (x16_5 + 1)) bL5007 (x166001_5 ++ [t173])) else (none)) else (none))) = some (r1, r2) := H
 have A5010 := Aside0.mk A50100
 clear A50100
 by_cases c5011 : bL5007 = true
 {
 subst c5011
 have H1 : ((spec_l14Max.f (wrap64 (Int.tdiv (rd x11_4 x16_5) 2)) (wrap64 (2 * a0))).bind fun t175 => (if x15_5.length < 17592186044416 then (if x166001_5.length < 17592186044416 then (spec_Share.l2 k5 a0 a1 a3 x11_4 x12_4 x13_4 (x15_5 ++ [t175]) (wrap64 (x16_5 + 1)) true (x166001_5 ++ [t175])) else (none)) else (none))) = some (r1, r2) := by rw [if_pos rfl] at H; exact H
 clear H
 have H := H1
 clear H1
 replace H := Option.bind_eq_some_iff.mp H
 obtain ⟨t175, A50120, H⟩ := H
 replace H : (if x15_5.length < 17592186044416 then (if x166001_5.length < 17592186044416 then (spec_Share.l2 k5 a0 a1 a3 x11_4 x12_4 x13_4 (x15_5 ++ [t175]) (wrap64 (x16_5 + 1)) true (x166001_5 ++ [t175])) else (none)) else (none)) = some (r1, r2) := H
 have A5012 := Aside0.mk A50120
 clear A50120
 by_cases c5013 : x15_5.length < 17592186044416
 {
 rw [if_pos c5013] at H
 have LMc5013 := Aside0.mk c5013
 clear c5013
 obtain ⟨y176, hy176⟩ : ∃ y_ : List Int, y_ = (x15_5 ++ [t175]) := ⟨_, rfl⟩
 replace H : (if x166001_5.length < 17592186044416 then (spec_Share.l2 k5 a0 a1 a3 x11_4 x12_4 x13_4 y176 (wrap64 (x16_5 + 1)) true (x166001_5 ++ [t175])) else (none)) = some (r1, r2) := by first | (rw [hy176]; with_reducible exact H) | (have H2_ := (Option.bind_some _ _).symm.trans H; rw [hy176]; with_reducible exact H2_) | (have H2_ := (Option.bind_some _ _).symm.trans H; with_reducible exact H2_) | with_reducible exact H | (rw [hy176]; exact H) | exact H
 have Ny176 := Aside0.mk hy176
 clear hy176
 by_cases c5014 : x166001_5.length < 17592186044416
 {
 rw [if_pos c5014] at H
 have LMc5014 := Aside0.mk c5014
 clear c5014
 obtain ⟨y179, hy179⟩ : ∃ y_ : List Int, y_ = (x166001_5 ++ [t175]) := ⟨_, rfl⟩
 replace H : (spec_Share.l2 k5 a0 a1 a3 x11_4 x12_4 x13_4 y176 (wrap64 (x16_5 + 1)) true y179) = some (r1, r2) := by first | (rw [hy179]; with_reducible exact H) | (have H2_ := (Option.bind_some _ _).symm.trans H; rw [hy179]; with_reducible exact H2_) | (have H2_ := (Option.bind_some _ _).symm.trans H; with_reducible exact H2_) | with_reducible exact H | (rw [hy179]; exact H) | exact H
 have Ny179 := Aside0.mk hy179
 clear hy179
 have H' := Aside0.mk H
 clear H
 have p172 : 0 ≤ (x16_5 : Int) := of_decide_eq_true (by first | (with_reducible assumption) | assumption)
 have q172 : x16_5 < (x11_4.length : Int) := of_decide_eq_true (by first | (with_reducible assumption) | assumption)
 obtain ⟨ad172, e172, hx172_0⟩ := Kd.at_int (Kd.R_reads' HO_11.out).2.2 x16_5 p172 q172
 cases e172
 replace p172 := eq_true p172
 replace q172 := eq_true q172
 go_wp2_with (first | ((with_reducible refine gate_callee (f := 75) rfl ?_); refine goesL_ (some 80) rfl rfl Try.func75 (by kernel_rfl) rfl #[.int .i64 (wrap64 ((rd x11_4 x16_5) + a0)), .int .i64 1073741824] rfl wT ?_; (with_reducible refine (spec_l14Min.calls (wrap64 ((rd x11_4 x16_5) + a0)) 1073741824 t173 _ A5010.out).mono ?_); rintro e w' ⟨rfl, ⟨nd, rfl⟩⟩; refine ⟨_, rfl, ?_⟩; (try (rw [drewN_self wr]; generalize hq_ : World.drewN wr _ = wr; have n0_ := Aside0.mk (Kd.R_at hq_ HO_11.out); have n1_ := Aside0.mk (Kd.S_at hq_ HO_12.out); have n2_ := Aside0.mk (Kd.R_at hq_ HO_15.out); have n3_ := Aside0.mk (Kd.R_at hq_ HO_166001.out); have n4_ := Aside0.mk (blk_at hq_ BK165.out); have n5_ := Aside0.mk (below_at hq_ HB.out); clear hq_ HO_11 HO_12 HO_15 HO_166001 BK165 HB; have HO_11 := n0_; have HO_12 := n1_; have HO_15 := n2_; have HO_166001 := n3_; have BK165 := n4_; have HB := n5_; clear n0_ n1_ n2_ n3_ n4_ n5_; (try (obtain ⟨⟨hcyBK165_0, hcyBK165_1⟩, hfyBK165_0, hfyBK165_1⟩ := cells2 BK165.out)))); obtain ⟨⟨hcz6001_0, hcz6001_1⟩, hfz6001_0, hfz6001_1⟩ := cells2 BK165.out; have p174 : 0 ≤ (x16_5 : Int) := of_decide_eq_true (by first | (with_reducible assumption) | assumption); have q174 : x16_5 < (x11_4.length : Int) := of_decide_eq_true (by first | (with_reducible assumption) | assumption); obtain ⟨ad174, e174, hx174_0⟩ := Kd.at_int (Kd.R_reads' HO_11.out).2.2 x16_5 p174 q174; obtain rfl : ad172 = ad174 := (by injection e174); replace p174 := eq_true p174; replace q174 := eq_true q174) | ((with_reducible refine gate_callee (f := 76) rfl ?_); refine goesL_ (some 90) rfl rfl Try.func76 (by kernel_rfl) rfl #[.int .i64 (wrap64 (Int.tdiv (rd x11_4 x16_5) 2)), .int .i64 (wrap64 (2 * a0))] rfl wT ?_; (with_reducible refine (spec_l14Max.calls (wrap64 (Int.tdiv (rd x11_4 x16_5) 2)) (wrap64 (2 * a0)) t175 _ A5012.out).mono ?_); rintro e w' ⟨rfl, ⟨nd, rfl⟩⟩; refine ⟨_, rfl, ?_⟩; (try (rw [drewN_self wr]; generalize hq_ : World.drewN wr _ = wr; have n0_ := Aside0.mk (Kd.R_at hq_ HO_11.out); have n1_ := Aside0.mk (Kd.S_at hq_ HO_12.out); have n2_ := Aside0.mk (Kd.R_at hq_ HO_15.out); have n3_ := Aside0.mk (Kd.R_at hq_ HO_166001.out); have n4_ := Aside0.mk (blk_at hq_ BK165.out); have n5_ := Aside0.mk (below_at hq_ HB.out); clear hq_ HO_11 HO_12 HO_15 HO_166001 BK165 HB; have HO_11 := n0_; have HO_12 := n1_; have HO_15 := n2_; have HO_166001 := n3_; have BK165 := n4_; have HB := n5_; clear n0_ n1_ n2_ n3_ n4_ n5_; (try (obtain ⟨⟨hcyBK165_0, hcyBK165_1⟩, hfyBK165_0, hfyBK165_1⟩ := cells2 BK165.out))))) | ((with_reducible refine gate_builtin (b := .append) (xs := #[.tmp 91, .tmp 93]) rfl ?_); (try (refine gate_guard (by rfl) ?_; dsimp only)); at_builtin; refine Kd.R_append (Kd.int .i64) (w0 := w) w.heap.size rfl (.tmp 91) (.tmp 93) 29 2 (.int .i64 0) 8 rfl Try.underlying29 info2 rfl (by decide) (by omega) u15 x15_5 t175 [.int .i64 t175] (fun k_ => some k_ ≠ (.slice (some ad172) x11_4.length co5001 : Value).ownBlock ∧ some k_ ≠ (u166001 : Value).ownBlock) (fun _ => False) rfl rfl ?aP (fun _ hk => hk.elim) ?aF ?aO ?aB ?aS ?aL ?_; (case aP => exact rfl); (case aB => exact wB); (case aF => exact (fun k_ hk => ⟨Kd.fresh' (Kd.R_lt (Rh HO_11)) k_ hk, Kd.fresh' (Kd.R_lt (Rh HO_166001)) k_ hk⟩)); (case aO => exact (Rh HO_15)); (case aS => exact (below_size wB)); (case aL => have := LMc5013.out; omega); intro v177 w6002 ho hb hg hat; rw [← Ny176.out] at ho; have n0_ := Aside0.mk (Kd.R_after (ok := (fun k_ => some k_ ≠ (u166001 : Value).ownBlock)) (Kd.R_mono (Rh HO_11) (fun _ hk => ⟨hk.2, hk.1⟩)) hg hat); have n1_ := Aside0.mk (Kd.S_after (ok := (fun k_ => some k_ ≠ (.slice (some ad172) x11_4.length co5001 : Value).ownBlock ∧ some k_ ≠ (u166001 : Value).ownBlock ∧ k_ ≠ gb165)) (Kd.S_mono (Sh HO_12) (fun _ hk => ⟨⟨hk.1, ⟨hk.2.2.1, hk.2.2.2⟩⟩, hk.2.1⟩)) hg hat); have n2_ := Aside0.mk (Kd.R_after (ok := (fun k_ => some k_ ≠ (.slice (some ad172) x11_4.length co5001 : Value).ownBlock)) (Rh HO_166001) hg hat); have n3_ := Aside0.mk (blk_grown (Bh BK165) hg (Kd.R_ne HO_15.out BK165.out (by decide))); have n4_ := Aside0.mk (hb); have n5_ := Aside0.mk (ho); clear HO_11; clear HO_12; clear HO_166001; clear BK165; clear HB; clear HO_15; have HO_11 := n0_; have HO_12 := n1_; have HO_166001 := n2_; have BK165 := n3_; have HB := n4_; have HO178 := n5_; clear n0_ n1_ n2_ n3_ n4_ n5_; clear ho hb hg hat; obtain ⟨⟨hcz6003_0, hcz6003_1⟩, hfz6003_0, hfz6003_1⟩ := cells2 BK165.out) | ((with_reducible refine gate_builtin (b := .append) (xs := #[.tmp 96, .tmp 98]) rfl ?_); (try (refine gate_guard (by rfl) ?_; dsimp only)); at_builtin; refine Kd.R_append (Kd.int .i64) (w0 := w) w.heap.size rfl (.tmp 96) (.tmp 98) 29 2 (.int .i64 0) 8 rfl Try.underlying29 info2 rfl (by decide) (by omega) u166001 x166001_5 t175 [.int .i64 t175] (fun k_ => some k_ ≠ (.slice (some ad172) x11_4.length co5001 : Value).ownBlock ∧ some k_ ≠ (v177 : Value).ownBlock) (fun _ => False) rfl rfl ?aP (fun _ hk => hk.elim) ?aF ?aO ?aB ?aS ?aL ?_; (case aP => exact rfl); (case aB => exact wB); (case aF => exact (fun k_ hk => ⟨Kd.fresh' (Kd.R_lt (Rh HO_11)) k_ hk, Kd.fresh' (Kd.R_lt (Rh HO178)) k_ hk⟩)); (case aO => exact (Rh HO_166001)); (case aS => exact (below_size wB)); (case aL => have := LMc5014.out; omega); intro v180 w6004 ho hb hg hat; rw [← Ny179.out] at ho; have n0_ := Aside0.mk (Kd.R_after (ok := (fun k_ => some k_ ≠ (v177 : Value).ownBlock)) (Kd.R_mono (Rh HO_11) (fun _ hk => ⟨hk.2, hk.1⟩)) hg hat); have n1_ := Aside0.mk (Kd.S_after (ok := (fun k_ => some k_ ≠ (.slice (some ad172) x11_4.length co5001 : Value).ownBlock ∧ some k_ ≠ (v177 : Value).ownBlock ∧ k_ ≠ gb165)) (Kd.S_mono (Sh HO_12) (fun _ hk => ⟨⟨hk.1.1, ⟨hk.2, hk.1.2.2⟩⟩, hk.1.2.1⟩)) hg hat); have n2_ := Aside0.mk (blk_grown (Bh BK165) hg (Kd.R_ne HO_166001.out BK165.out (by decide))); have n3_ := Aside0.mk (Kd.R_after (ok := (fun k_ => some k_ ≠ (.slice (some ad172) x11_4.length co5001 : Value).ownBlock)) (Rh HO178) hg hat); have n4_ := Aside0.mk (hb); have n5_ := Aside0.mk (ho); clear HO_11; clear HO_12; clear BK165; clear HO178; clear HB; clear HO_166001; have HO_11 := n0_; have HO_12 := n1_; have BK165 := n2_; have HO178 := n3_; have HB := n4_; have HO181 := n5_; clear n0_ n1_ n2_ n3_ n4_ n5_; clear ho hb hg hat; obtain ⟨Ao6005, co6005, eo6005⟩ := Kd.R_slice HO181.out; subst eo6005; obtain ⟨⟨hcz6006_0, hcz6006_1⟩, hfz6006_0, hfz6006_1⟩ := cells2 BK165.out))
 go_roundg k5
 case measure => have := HJ4.out; have := HK2.out; have := HJ2004.out; have := HK4.out; have := HK5.out; omega
 case rel => exact ⟨(y176), (wrap64 (x16_5 + 1)), (y179), (.slice Ao6005 y179.length co6005), (by first | rfl | (simp; done) | (simp [*]; done)), H', ⟨by have := HJ4.out; have := HK2.out; have := HJ2004.out; have := HK4.out; have := HK5.out; omega⟩, ⟨by (with_reducible repeat (first | apply Kd.R_alloc | apply Kd.R_drewN | apply Kd.R_drew)); exact Kd.R_mono (Kd.R_far (p := ⟨gb165, 1, none⟩) (Kd.R_types HO_11.out BK165.out (by decide)) (fun _ hk => hk.2) (.slice Ao6005 y179.length co6005)) (fun _ hk => ⟨hk.1.1, hk.1.2⟩)⟩, ⟨by (with_reducible repeat (first | apply Kd.S_alloc | apply Kd.S_drewN | apply Kd.S_drew)); exact Kd.S_mono (Kd.S_far (p := ⟨gb165, 1, none⟩) (Kd.S_mono HO_12.out (fun k_ hk => (⟨hk, hk.1.2.2⟩ : _ ∧ k_ ≠ gb165))) (fun _ hk => hk.2) (.slice Ao6005 y179.length co6005)) (fun _ hk => ⟨hk.1.1.1, ⟨hk.1.1.2.1, ⟨hk.1.2, hk.1.1.2.2⟩⟩⟩)⟩, ⟨by (with_reducible repeat (first | apply Kd.R_alloc | apply Kd.R_drewN | apply Kd.R_drew)); exact Kd.R_mono (Kd.R_far (p := ⟨gb165, 1, none⟩) (Kd.R_types HO178.out BK165.out (by decide)) (fun _ hk => hk.2) (.slice Ao6005 y179.length co6005)) (fun _ hk => ⟨hk.1.1, hk.1.2⟩)⟩, ⟨by (with_reducible repeat (first | apply Kd.R_alloc | apply Kd.R_drewN | apply Kd.R_drew)); exact Kd.R_mono (Kd.R_far (p := ⟨gb165, 1, none⟩) (Kd.R_types HO181.out BK165.out (by decide)) (fun _ hk => hk.2) (.slice Ao6005 y179.length co6005)) (fun _ hk => ⟨hk.1.1, hk.1.2⟩)⟩, ⟨by (with_reducible repeat (first | refine blk_drewN ?_ _ | refine blk_drew ?_ | refine blk_alloc ?_ _)); refine blk_put (cs := #[.bool true, u166001]) ?_ 1 _ rfl; (with_reducible repeat (first | refine blk_drewN ?_ _ | refine blk_drew ?_ | refine blk_alloc ?_ _)); exact BK165.out⟩, ⟨wB⟩⟩
 }
 {
 rw [if_neg c5014] at H
 exact absurd H (by simp)
 }
 }
 {
 rw [if_neg c5013] at H
 exact absurd H (by simp)
 }
 }
 {
 replace c5011 := Bool.eq_false_iff.mpr c5011
 subst c5011
 have H1 : (if x15_5.length < 17592186044416 then (if x166001_5.length < 17592186044416 then (spec_Share.l2 k5 a0 a1 a3 x11_4 x12_4 x13_4 (x15_5 ++ [t173]) (wrap64 (x16_5 + 1)) false (x166001_5 ++ [t173])) else (none)) else (none)) = some (r1, r2) := by rw [if_neg (show ¬ (false = true) by decide)] at H; exact H
 clear H
 have H := H1
 clear H1
 by_cases c5015 : x15_5.length < 17592186044416
 {
 rw [if_pos c5015] at H
 have LMc5015 := Aside0.mk c5015
 clear c5015
 obtain ⟨y182, hy182⟩ : ∃ y_ : List Int, y_ = (x15_5 ++ [t173]) := ⟨_, rfl⟩
 replace H : (if x166001_5.length < 17592186044416 then (spec_Share.l2 k5 a0 a1 a3 x11_4 x12_4 x13_4 y182 (wrap64 (x16_5 + 1)) false (x166001_5 ++ [t173])) else (none)) = some (r1, r2) := by first | (rw [hy182]; with_reducible exact H) | (have H2_ := (Option.bind_some _ _).symm.trans H; rw [hy182]; with_reducible exact H2_) | (have H2_ := (Option.bind_some _ _).symm.trans H; with_reducible exact H2_) | with_reducible exact H | (rw [hy182]; exact H) | exact H
 have Ny182 := Aside0.mk hy182
 clear hy182
 by_cases c5016 : x166001_5.length < 17592186044416
 {
 rw [if_pos c5016] at H
 have LMc5016 := Aside0.mk c5016
 clear c5016
 obtain ⟨y185, hy185⟩ : ∃ y_ : List Int, y_ = (x166001_5 ++ [t173]) := ⟨_, rfl⟩
 replace H : (spec_Share.l2 k5 a0 a1 a3 x11_4 x12_4 x13_4 y182 (wrap64 (x16_5 + 1)) false y185) = some (r1, r2) := by first | (rw [hy185]; with_reducible exact H) | (have H2_ := (Option.bind_some _ _).symm.trans H; rw [hy185]; with_reducible exact H2_) | (have H2_ := (Option.bind_some _ _).symm.trans H; with_reducible exact H2_) | with_reducible exact H | (rw [hy185]; exact H) | exact H
 have Ny185 := Aside0.mk hy185
 clear hy185
 have H' := Aside0.mk H
 clear H
 have p172 : 0 ≤ (x16_5 : Int) := of_decide_eq_true (by first | (with_reducible assumption) | assumption)
 have q172 : x16_5 < (x11_4.length : Int) := of_decide_eq_true (by first | (with_reducible assumption) | assumption)
 obtain ⟨ad172, e172, hx172_0⟩ := Kd.at_int (Kd.R_reads' HO_11.out).2.2 x16_5 p172 q172
 cases e172
 replace p172 := eq_true p172
 replace q172 := eq_true q172
 go_wp2_with (first | ((with_reducible refine gate_callee (f := 75) rfl ?_); refine goesL_ (some 80) rfl rfl Try.func75 (by kernel_rfl) rfl #[.int .i64 (wrap64 ((rd x11_4 x16_5) + a0)), .int .i64 1073741824] rfl wT ?_; (with_reducible refine (spec_l14Min.calls (wrap64 ((rd x11_4 x16_5) + a0)) 1073741824 t173 _ A5010.out).mono ?_); rintro e w' ⟨rfl, ⟨nd, rfl⟩⟩; refine ⟨_, rfl, ?_⟩; (try (rw [drewN_self wr]; generalize hq_ : World.drewN wr _ = wr; have n0_ := Aside0.mk (Kd.R_at hq_ HO_11.out); have n1_ := Aside0.mk (Kd.S_at hq_ HO_12.out); have n2_ := Aside0.mk (Kd.R_at hq_ HO_15.out); have n3_ := Aside0.mk (Kd.R_at hq_ HO_166001.out); have n4_ := Aside0.mk (blk_at hq_ BK165.out); have n5_ := Aside0.mk (below_at hq_ HB.out); clear hq_ HO_11 HO_12 HO_15 HO_166001 BK165 HB; have HO_11 := n0_; have HO_12 := n1_; have HO_15 := n2_; have HO_166001 := n3_; have BK165 := n4_; have HB := n5_; clear n0_ n1_ n2_ n3_ n4_ n5_; (try (obtain ⟨⟨hcyBK165_0, hcyBK165_1⟩, hfyBK165_0, hfyBK165_1⟩ := cells2 BK165.out)))); obtain ⟨⟨hcz6001_0, hcz6001_1⟩, hfz6001_0, hfz6001_1⟩ := cells2 BK165.out) | ((with_reducible refine gate_builtin (b := .append) (xs := #[.tmp 91, .tmp 93]) rfl ?_); (try (refine gate_guard (by rfl) ?_; dsimp only)); at_builtin; refine Kd.R_append (Kd.int .i64) (w0 := w) w.heap.size rfl (.tmp 91) (.tmp 93) 29 2 (.int .i64 0) 8 rfl Try.underlying29 info2 rfl (by decide) (by omega) u15 x15_5 t173 [.int .i64 t173] (fun k_ => some k_ ≠ (.slice (some ad172) x11_4.length co5001 : Value).ownBlock ∧ some k_ ≠ (u166001 : Value).ownBlock) (fun _ => False) rfl rfl ?aP (fun _ hk => hk.elim) ?aF ?aO ?aB ?aS ?aL ?_; (case aP => exact rfl); (case aB => exact wB); (case aF => exact (fun k_ hk => ⟨Kd.fresh' (Kd.R_lt (Rh HO_11)) k_ hk, Kd.fresh' (Kd.R_lt (Rh HO_166001)) k_ hk⟩)); (case aO => exact (Rh HO_15)); (case aS => exact (below_size wB)); (case aL => have := LMc5015.out; omega); intro v183 w6002 ho hb hg hat; rw [← Ny182.out] at ho; have n0_ := Aside0.mk (Kd.R_after (ok := (fun k_ => some k_ ≠ (u166001 : Value).ownBlock)) (Kd.R_mono (Rh HO_11) (fun _ hk => ⟨hk.2, hk.1⟩)) hg hat); have n1_ := Aside0.mk (Kd.S_after (ok := (fun k_ => some k_ ≠ (.slice (some ad172) x11_4.length co5001 : Value).ownBlock ∧ some k_ ≠ (u166001 : Value).ownBlock ∧ k_ ≠ gb165)) (Kd.S_mono (Sh HO_12) (fun _ hk => ⟨⟨hk.1, ⟨hk.2.2.1, hk.2.2.2⟩⟩, hk.2.1⟩)) hg hat); have n2_ := Aside0.mk (Kd.R_after (ok := (fun k_ => some k_ ≠ (.slice (some ad172) x11_4.length co5001 : Value).ownBlock)) (Rh HO_166001) hg hat); have n3_ := Aside0.mk (blk_grown (Bh BK165) hg (Kd.R_ne HO_15.out BK165.out (by decide))); have n4_ := Aside0.mk (hb); have n5_ := Aside0.mk (ho); clear HO_11; clear HO_12; clear HO_166001; clear BK165; clear HB; clear HO_15; have HO_11 := n0_; have HO_12 := n1_; have HO_166001 := n2_; have BK165 := n3_; have HB := n4_; have HO184 := n5_; clear n0_ n1_ n2_ n3_ n4_ n5_; clear ho hb hg hat; obtain ⟨⟨hcz6003_0, hcz6003_1⟩, hfz6003_0, hfz6003_1⟩ := cells2 BK165.out) | ((with_reducible refine gate_builtin (b := .append) (xs := #[.tmp 96, .tmp 98]) rfl ?_); (try (refine gate_guard (by rfl) ?_; dsimp only)); at_builtin; refine Kd.R_append (Kd.int .i64) (w0 := w) w.heap.size rfl (.tmp 96) (.tmp 98) 29 2 (.int .i64 0) 8 rfl Try.underlying29 info2 rfl (by decide) (by omega) u166001 x166001_5 t173 [.int .i64 t173] (fun k_ => some k_ ≠ (.slice (some ad172) x11_4.length co5001 : Value).ownBlock ∧ some k_ ≠ (v183 : Value).ownBlock) (fun _ => False) rfl rfl ?aP (fun _ hk => hk.elim) ?aF ?aO ?aB ?aS ?aL ?_; (case aP => exact rfl); (case aB => exact wB); (case aF => exact (fun k_ hk => ⟨Kd.fresh' (Kd.R_lt (Rh HO_11)) k_ hk, Kd.fresh' (Kd.R_lt (Rh HO184)) k_ hk⟩)); (case aO => exact (Rh HO_166001)); (case aS => exact (below_size wB)); (case aL => have := LMc5016.out; omega); intro v186 w6004 ho hb hg hat; rw [← Ny185.out] at ho; have n0_ := Aside0.mk (Kd.R_after (ok := (fun k_ => some k_ ≠ (v183 : Value).ownBlock)) (Kd.R_mono (Rh HO_11) (fun _ hk => ⟨hk.2, hk.1⟩)) hg hat); have n1_ := Aside0.mk (Kd.S_after (ok := (fun k_ => some k_ ≠ (.slice (some ad172) x11_4.length co5001 : Value).ownBlock ∧ some k_ ≠ (v183 : Value).ownBlock ∧ k_ ≠ gb165)) (Kd.S_mono (Sh HO_12) (fun _ hk => ⟨⟨hk.1.1, ⟨hk.2, hk.1.2.2⟩⟩, hk.1.2.1⟩)) hg hat); have n2_ := Aside0.mk (blk_grown (Bh BK165) hg (Kd.R_ne HO_166001.out BK165.out (by decide))); have n3_ := Aside0.mk (Kd.R_after (ok := (fun k_ => some k_ ≠ (.slice (some ad172) x11_4.length co5001 : Value).ownBlock)) (Rh HO184) hg hat); have n4_ := Aside0.mk (hb); have n5_ := Aside0.mk (ho); clear HO_11; clear HO_12; clear BK165; clear HO184; clear HB; clear HO_166001; have HO_11 := n0_; have HO_12 := n1_; have BK165 := n2_; have HO184 := n3_; have HB := n4_; have HO187 := n5_; clear n0_ n1_ n2_ n3_ n4_ n5_; clear ho hb hg hat; obtain ⟨Ao6005, co6005, eo6005⟩ := Kd.R_slice HO187.out; subst eo6005; obtain ⟨⟨hcz6006_0, hcz6006_1⟩, hfz6006_0, hfz6006_1⟩ := cells2 BK165.out))
 go_roundg k5
 case measure => have := HJ4.out; have := HK2.out; have := HJ2004.out; have := HK4.out; have := HK5.out; omega
 case rel => exact ⟨(y182), (wrap64 (x16_5 + 1)), (y185), (.slice Ao6005 y185.length co6005), (by first | rfl | (simp; done) | (simp [*]; done)), H', ⟨by have := HJ4.out; have := HK2.out; have := HJ2004.out; have := HK4.out; have := HK5.out; omega⟩, ⟨by (with_reducible repeat (first | apply Kd.R_alloc | apply Kd.R_drewN | apply Kd.R_drew)); exact Kd.R_mono (Kd.R_far (p := ⟨gb165, 1, none⟩) (Kd.R_types HO_11.out BK165.out (by decide)) (fun _ hk => hk.2) (.slice Ao6005 y185.length co6005)) (fun _ hk => ⟨hk.1.1, hk.1.2⟩)⟩, ⟨by (with_reducible repeat (first | apply Kd.S_alloc | apply Kd.S_drewN | apply Kd.S_drew)); exact Kd.S_mono (Kd.S_far (p := ⟨gb165, 1, none⟩) (Kd.S_mono HO_12.out (fun k_ hk => (⟨hk, hk.1.2.2⟩ : _ ∧ k_ ≠ gb165))) (fun _ hk => hk.2) (.slice Ao6005 y185.length co6005)) (fun _ hk => ⟨hk.1.1.1, ⟨hk.1.1.2.1, ⟨hk.1.2, hk.1.1.2.2⟩⟩⟩)⟩, ⟨by (with_reducible repeat (first | apply Kd.R_alloc | apply Kd.R_drewN | apply Kd.R_drew)); exact Kd.R_mono (Kd.R_far (p := ⟨gb165, 1, none⟩) (Kd.R_types HO184.out BK165.out (by decide)) (fun _ hk => hk.2) (.slice Ao6005 y185.length co6005)) (fun _ hk => ⟨hk.1.1, hk.1.2⟩)⟩, ⟨by (with_reducible repeat (first | apply Kd.R_alloc | apply Kd.R_drewN | apply Kd.R_drew)); exact Kd.R_mono (Kd.R_far (p := ⟨gb165, 1, none⟩) (Kd.R_types HO187.out BK165.out (by decide)) (fun _ hk => hk.2) (.slice Ao6005 y185.length co6005)) (fun _ hk => ⟨hk.1.1, hk.1.2⟩)⟩, ⟨by (with_reducible repeat (first | refine blk_drewN ?_ _ | refine blk_drew ?_ | refine blk_alloc ?_ _)); refine blk_put (cs := #[.bool false, u166001]) ?_ 1 _ rfl; (with_reducible repeat (first | refine blk_drewN ?_ _ | refine blk_drew ?_ | refine blk_alloc ?_ _)); exact BK165.out⟩, ⟨wB⟩⟩
 }
 {
 rw [if_neg c5016] at H
 exact absurd H (by simp)
 }
 }
 {
 rw [if_neg c5015] at H
 exact absurd H (by simp)
 }
 }
 }
 {
 rw [if_neg c5009] at H
 exact absurd H (by simp)
 }
 }
 {
 rw [if_neg c5008] at H
 have c5008b0 : decide (x16_5 < (x11_4.length : Int)) = false := decide_eq_false c5008
 clear c5008
 by_cases c5017 : x12_4.length < 4398046511104
 {
 rw [if_pos c5017] at H
 have LMc5017 := Aside0.mk c5017
 clear c5017
 obtain ⟨y169, hy169⟩ : ∃ y_ : List (S35), y_ = (x12_4 ++ [(⟨bL5007, x166001_5⟩ : S35)]) := ⟨_, rfl⟩
 replace H : (spec_Share.l1 k5 a0 a1 a3 x15_5 y169 (wrap64 (x13_4 + 1))) = some (r1, r2) := by first | (rw [hy169]; with_reducible exact H) | (have H2_ := (Option.bind_some _ _).symm.trans H; rw [hy169]; with_reducible exact H2_) | (have H2_ := (Option.bind_some _ _).symm.trans H; with_reducible exact H2_) | with_reducible exact H | (rw [hy169]; exact H) | exact H
 have Ny169 := Aside0.mk hy169
 clear hy169
 have H' := Aside0.mk H
 clear H
 obtain ⟨⟨hcz6001_0, hcz6001_1⟩, hfz6001_0, hfz6001_1⟩ := cells2 BK165.out
 obtain ⟨Ao6003, co6003, eo6003⟩ := Kd.R_slice HO_166001.out
 subst eo6003
 go_wp2_with (first | ((with_reducible refine gate_builtin (b := .append) (xs := #[.tmp 102, .tmp 104]) rfl ?_); (try (refine gate_guard (by rfl) ?_; dsimp only)); at_builtin; refine Kd.S_append k35 (w0 := w) w.heap.size rfl (.tmp 102) (.tmp 104) 30 35 (.agg #[(.bool false), (.slice none 0 0)]) 32 rfl Try.underlying30 info35 rfl (by decide) (by omega) u12 x12_4 (⟨bL5007, x166001_5⟩ : S35) [.bool bL5007, .slice Ao6003 x166001_5.length co6003] (fun k_ => some k_ ≠ (.slice Ao5001 x11_4.length co5001 : Value).ownBlock ∧ some k_ ≠ (u15 : Value).ownBlock ∧ k_ ≠ gb165) (fun k_ => some k_ = (.slice Ao6003 x166001_5.length co6003 : Value).ownBlock) rfl rfl ?aP (fun k_ hk_ => ((Kd.R_mono (ok' := fun k_ => ((fun k_ => some k_ ≠ (.slice Ao5001 x11_4.length co5001 : Value).ownBlock ∧ some k_ ≠ (u15 : Value).ownBlock ∧ k_ ≠ gb165)) k_ ∧ some k_ ≠ (u12 : Value).ownBlock) (Kd.R_types (Kd.R_apart' (HO_166001.out) (Kd.S_typed HO_12.out) (by decide)) BK165.out (by decide)) (fun k_ hk => ⟨⟨hk.1.1.1, ⟨hk.1.1.2, hk.2⟩⟩, hk.1.2⟩))).1 k_ hk_.symm) ?aF ?aO ?aB ?aS ?aL ?_; (case aP => exact k35_mkM _ _ _ (⟨bL5007, x166001_5⟩ : S35) (Kd.R_mono (Kd.R_tight rfl (Kd.R_mono (ok' := fun k_ => ((fun k_ => some k_ ≠ (.slice Ao5001 x11_4.length co5001 : Value).ownBlock ∧ some k_ ≠ (u15 : Value).ownBlock ∧ k_ ≠ gb165)) k_ ∧ some k_ ≠ (u12 : Value).ownBlock) (Kd.R_types (Kd.R_apart' (HO_166001.out) (Kd.S_typed HO_12.out) (by decide)) BK165.out (by decide)) (fun k_ hk => ⟨⟨hk.1.1.1, ⟨hk.1.1.2, hk.2⟩⟩, hk.1.2⟩))) (fun _ h_ => h_))); (case aB => exact wB); (case aF => exact (fun k_ hk => ⟨Kd.fresh' (Kd.R_lt (Rh HO_11)) k_ hk, Kd.fresh' (Kd.R_lt (Rh HO_15)) k_ hk, Kd.freshB (Bh BK165) k_ hk⟩)); (case aO => exact (Kd.S_mono (Sh HO_12) (fun k_ hk => ⟨⟨hk.1, ⟨hk.2.1, hk.2.2.2⟩⟩, fun e_ => hk.2.2.1 e_⟩))); (case aS => exact (below_size wB)); (case aL => have := LMc5017.out; omega); intro v170 w6002 ho hb hg hat; rw [← Ny169.out] at ho; have n0_ := Aside0.mk (Kd.R_over' (Rh HO_11) (Kd.S_typed (Sh HO_12)) (by decide) hg); have n1_ := Aside0.mk (Kd.R_over' (Rh HO_15) (Kd.S_typed (Sh HO_12)) (by decide) hg); have n2_ := Aside0.mk (blk_grown (Bh BK165) hg (Kd.S_away HO_12.out (fun _ hk => hk.2.2.2))); have n3_ := Aside0.mk (hb); have n4_ := Aside0.mk (ho); clear HO_11; clear HO_15; clear BK165; clear HB; clear HO_12; clear HO_166001; have HO_11 := n0_; have HO_15 := n1_; have BK165 := n2_; have HB := n3_; have HO171 := n4_; clear n0_ n1_ n2_ n3_ n4_; clear ho hb hg hat))
 go_roundg k5
 case measure => have := HJ4.out; have := HK2.out; have := HJ2004.out; have := HK4.out; have := HK5.out; omega
 case rel => exact ⟨(x15_5), (y169), (wrap64 (x13_4 + 1)), (by first | rfl | (simp; done) | (simp [*]; done)), H', ⟨by have := HJ4.out; have := HK2.out; have := HJ2004.out; have := HK4.out; have := HK5.out; omega⟩, ⟨Kd.R_mono (Rh HO_15) (fun _ hk => trivial)⟩, ⟨Kd.S_mono (Sh HO171) (fun _ hk => hk.2.1)⟩, ⟨wB⟩⟩
 }
 {
 rw [if_neg c5017] at H
 exact absurd H (by simp)
 }
 }
 }
 )
 }
 {
 rw [if_neg c4006] at H
 have c4006b0 : decide (x13_4 < a3) = false := decide_eq_false c4006
 clear c4006
 simp only [Option.some.injEq, Prod.mk.injEq] at H
 obtain ⟨rfl, rfl⟩ := H
 go_wp2
 go_ret2
 exact ⟨_, by first | rfl | (simp [errW_none, errW_some] <;> rfl) | (simp [*, errW_none, errW_some] <;> rfl), Kd.S_mono (Sh HO_12) (fun _ hk => trivial), wB⟩
 }
 }
 )
 }
 {
 rw [if_neg c3003] at H
 exact absurd H (by simp)
 }
 }
 }
 )
 }
 }
 )
 }
 }
 )

end Go.Proofs.Ytkfbcmbemihbnaa.PFnExactShare
