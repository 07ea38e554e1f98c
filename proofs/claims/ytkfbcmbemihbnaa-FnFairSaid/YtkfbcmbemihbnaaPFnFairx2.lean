-- Written for this claim by a program of this session (wip/mkprint.py: the print, turned at a few places). Not trusted: Lean checks it.
import Derived.Test.YtkfbcmbemihbnaaPFnFairx0
import Derived.Test.YtkfbcmbemihbnaaPFnFairx1
namespace Go.Proofs.Ytkfbcmbemihbnaa.PFnFair
open Go.RowKit Go.Proofs.YtkfbcmbemihbnaaW.PrintWords Go.Proofs.YtkfbcmbemihbnaaW.PrintLast Go.Proofs.YtkfbcmbemihbnaaW.PrintMore
attribute [local go_sem] max2_int min2_int max_two min_two max_three min_three max_four min_four   -- for this text's walks alone
set_option linter.unusedVariables false
set_option linter.unusedSimpArgs false

/-! ### impl_Share: function 16 -/
mutual
def impl_Share.j0 : Nat → Int → Int → List Int → Int → Bool → Option ((List (S35)) × Int)
  | 0, _, _, _, _, _ => none
  | k + 1, x0, x1, x2, x3, x41 => if x41 = true then (some (([] : List (S35)), 1)) else (impl_Share.l0 k x0 x1 x3 ([] : List (S112)) x2 (x2.length : Int) 0)
def impl_Share.l0 : Nat → Int → Int → Int → List (S112) → List Int → Int → Int → Option ((List (S35)) × Int)
  | 0, _, _, _, _, _, _, _ => none
  | k + 1, x0, x1, x3, x10, x42, x43, x44 => if x44 < x43 then (if 0 ≤ x44 then (if x44 < (x42.length : Int) then (if (rd x42 x44) < (wrap64 (2 * x0)) then (some (([] : List (S35)), 1)) else (if (rd x42 x44) > 1073741824 then (some (([] : List (S35)), 1)) else (if x10.length < 4398046511104 then (impl_Share.l0 k x0 x1 x3 (x10 ++ [(⟨x0, rd x42 x44, wrap64 (2 * x0), 0⟩ : S112)]) x42 x43 (wrap64 (x44 + 1))) else (none)))) else (none)) else (none)) else (if (x10.length : Int) < 1 then (impl_Share.j2 k x1 x3 x10 true) else (impl_Share.j2 k x1 x3 x10 (decide ((x10.length : Int) > 64))))
def impl_Share.j2 : Nat → Int → Int → List (S112) → Bool → Option ((List (S35)) × Int)
  | 0, _, _, _, _ => none
  | k + 1, x1, x3, x10, x72 => if x72 = true then (some (([] : List (S35)), 8)) else (impl_Share.l1 k x1 x10 ([] : List (S35)) x3 0)
def impl_Share.l1 : Nat → Int → List (S112) → List (S35) → Int → Int → Option ((List (S35)) × Int)
  | 0, _, _, _, _, _ => none
  | k + 1, x1, x10, x13, x73, x74 => if x74 < x73 then (impl_Share.l2 k x1 x10 x13 0 x73 x74 (x10.length : Int) 0) else (some (x13, 0))
def impl_Share.l2 : Nat → Int → List (S112) → List (S35) → Int → Int → Int → Int → Int → Option ((List (S35)) × Int)
  | 0, _, _, _, _, _, _, _, _ => none
  | k + 1, x1, x10, x13, x14, x73, x74, x77, x78 => if x78 < x77 then (if 0 ≤ x78 then (if x78 < (x10.length : Int) then (impl_Share.l2 k x1 x10 x13 (wrap64 (x14 + ((rd_T112 x10 x78).f1))) x73 x74 x77 (wrap64 (x78 + 1))) else (none)) else (none)) else (impl_Share.l3 k x1 x10 x13 x73 x74 (x10.length : Int) 0 (decide (x14 > x1)) ([] : List Int))
def impl_Share.l3 : Nat → Int → List (S112) → List (S35) → Int → Int → Int → Int → Bool → List Int → Option ((List (S35)) × Int)
  | 0, _, _, _, _, _, _, _, _, _ => none
  | k + 1, x1, x10, x13, x73, x74, x92, x93, x125000, x125001 => if x93 < x92 then (if 0 ≤ x93 then (if x93 < (x10.length : Int) then (if x125000 = true then ((impl_CongLoss.f ((rd_T112 x10 x93).f0) ((rd_T112 x10 x93).f1) ((rd_T112 x10 x93).f2) ((rd_T112 x10 x93).f3) ((rd_T112 x10 x93).f1)).bind fun bt133 => ((some (x10.set (x93 : Int).toNat (⟨bt133.1, bt133.2.1, bt133.2.2.1, bt133.2.2.2.1⟩ : S112) : List (S112))).bind fun y138 => (if x125001.length < 17592186044416 then (impl_Share.l3 k x1 y138 x13 x73 x74 x92 (wrap64 (x93 + 1)) x125000 (x125001 ++ [(rd_T112 y138 x93).f1])) else (none)))) else ((impl_CongAck.f k ((rd_T112 x10 x93).f0) ((rd_T112 x10 x93).f1) ((rd_T112 x10 x93).f2) ((rd_T112 x10 x93).f3) ((rd_T112 x10 x93).f1)).bind fun bt143 => ((some (x10.set (x93 : Int).toNat (⟨bt143.1, bt143.2.1, bt143.2.2.1, bt143.2.2.2.1⟩ : S112) : List (S112))).bind fun y148 => (if x125001.length < 17592186044416 then (impl_Share.l3 k x1 y148 x13 x73 x74 x92 (wrap64 (x93 + 1)) x125000 (x125001 ++ [(rd_T112 y148 x93).f1])) else (none))))) else (none)) else (none)) else ((slices_Clone_int64_int64.f x125001).bind fun t125 => (if x13.length < 4398046511104 then (impl_Share.l1 k x1 x10 (x13 ++ [(⟨x125000, t125⟩ : S35)]) x73 (wrap64 (x74 + 1))) else (none)))
end
def impl_Share.f (k : Nat) (a0 : Int) (a1 : Int) (l2 : List Int) (a3 : Int) : Option ((List (S35)) × Int) := if a0 < 1 then (impl_Share.j0 k a0 a1 l2 a3 true) else (if a0 > 65535 then (impl_Share.j0 k a0 a1 l2 a3 true) else (if a1 < 1 then (impl_Share.j0 k a0 a1 l2 a3 true) else (if a1 > 1073741824 then (impl_Share.j0 k a0 a1 l2 a3 true) else (if a3 < 0 then (impl_Share.j0 k a0 a1 l2 a3 true) else (impl_Share.j0 k a0 a1 l2 a3 (decide (a3 > 2000)))))))
theorem impl_Share.mono_l : ∀ k, (∀ y0 y1 y2 y3 y4, LeO (impl_Share.j0 k y0 y1 y2 y3 y4) (impl_Share.j0 (k + 1) y0 y1 y2 y3 y4)) ∧ (∀ y0 y1 y2 y3 y4 y5 y6, LeO (impl_Share.l0 k y0 y1 y2 y3 y4 y5 y6) (impl_Share.l0 (k + 1) y0 y1 y2 y3 y4 y5 y6)) ∧ (∀ y0 y1 y2 y3, LeO (impl_Share.j2 k y0 y1 y2 y3) (impl_Share.j2 (k + 1) y0 y1 y2 y3)) ∧ (∀ y0 y1 y2 y3 y4, LeO (impl_Share.l1 k y0 y1 y2 y3 y4) (impl_Share.l1 (k + 1) y0 y1 y2 y3 y4)) ∧ (∀ y0 y1 y2 y3 y4 y5 y6 y7, LeO (impl_Share.l2 k y0 y1 y2 y3 y4 y5 y6 y7) (impl_Share.l2 (k + 1) y0 y1 y2 y3 y4 y5 y6 y7)) ∧ (∀ y0 y1 y2 y3 y4 y5 y6 y7 y8, LeO (impl_Share.l3 k y0 y1 y2 y3 y4 y5 y6 y7 y8) (impl_Share.l3 (k + 1) y0 y1 y2 y3 y4 y5 y6 y7 y8))
  | 0 => ⟨fun _ _ _ _ _ r h => by simp [impl_Share.j0] at h, fun _ _ _ _ _ _ _ r h => by simp [impl_Share.l0] at h, fun _ _ _ _ r h => by simp [impl_Share.j2] at h, fun _ _ _ _ _ r h => by simp [impl_Share.l1] at h, fun _ _ _ _ _ _ _ _ r h => by simp [impl_Share.l2] at h, fun _ _ _ _ _ _ _ _ _ r h => by simp [impl_Share.l3] at h⟩
  | k + 1 => by
    obtain ⟨ih0, ih1, ih2, ih3, ih4, ih5⟩ := impl_Share.mono_l k
    refine ⟨?_, ?_, ?_, ?_, ?_, ?_⟩
    · intro y0 y1 y2 y3 y4
      unfold impl_Share.j0
      repeat' first
      | (with_reducible exact ih0 _ _ _ _ _)
      | (with_reducible exact ih1 _ _ _ _ _ _ _)
      | (with_reducible exact ih2 _ _ _ _)
      | (with_reducible exact ih3 _ _ _ _ _)
      | (with_reducible exact ih4 _ _ _ _ _ _ _ _)
      | (with_reducible exact ih5 _ _ _ _ _ _ _ _ _)
      | (with_reducible exact impl_CongAck.mono _ _ _ _ _ _)
      | (with_reducible exact LeO.refl _)
      | (with_reducible exact LeO.none _)
      | (with_reducible refine LeO.ite ?_ ?_)
      | (with_reducible refine LeO.bind ?_ (fun _ => ?_))
      | exact ih0 _ _ _ _ _
      | exact ih1 _ _ _ _ _ _ _
      | exact ih2 _ _ _ _
      | exact ih3 _ _ _ _ _
      | exact ih4 _ _ _ _ _ _ _ _
      | exact ih5 _ _ _ _ _ _ _ _ _
      | exact impl_CongAck.mono _ _ _ _ _ _
      | exact LeO.none _
      | refine LeO.ite ?_ ?_
      | refine LeO.bind ?_ (fun _ => ?_)
    · intro y0 y1 y2 y3 y4 y5 y6
      unfold impl_Share.l0
      repeat' first
      | (with_reducible exact ih0 _ _ _ _ _)
      | (with_reducible exact ih1 _ _ _ _ _ _ _)
      | (with_reducible exact ih2 _ _ _ _)
      | (with_reducible exact ih3 _ _ _ _ _)
      | (with_reducible exact ih4 _ _ _ _ _ _ _ _)
      | (with_reducible exact ih5 _ _ _ _ _ _ _ _ _)
      | (with_reducible exact impl_CongAck.mono _ _ _ _ _ _)
      | (with_reducible exact LeO.refl _)
      | (with_reducible exact LeO.none _)
      | (with_reducible refine LeO.ite ?_ ?_)
      | (with_reducible refine LeO.bind ?_ (fun _ => ?_))
      | exact ih0 _ _ _ _ _
      | exact ih1 _ _ _ _ _ _ _
      | exact ih2 _ _ _ _
      | exact ih3 _ _ _ _ _
      | exact ih4 _ _ _ _ _ _ _ _
      | exact ih5 _ _ _ _ _ _ _ _ _
      | exact impl_CongAck.mono _ _ _ _ _ _
      | exact LeO.none _
      | refine LeO.ite ?_ ?_
      | refine LeO.bind ?_ (fun _ => ?_)
    · intro y0 y1 y2 y3
      unfold impl_Share.j2
      repeat' first
      | (with_reducible exact ih0 _ _ _ _ _)
      | (with_reducible exact ih1 _ _ _ _ _ _ _)
      | (with_reducible exact ih2 _ _ _ _)
      | (with_reducible exact ih3 _ _ _ _ _)
      | (with_reducible exact ih4 _ _ _ _ _ _ _ _)
      | (with_reducible exact ih5 _ _ _ _ _ _ _ _ _)
      | (with_reducible exact impl_CongAck.mono _ _ _ _ _ _)
      | (with_reducible exact LeO.refl _)
      | (with_reducible exact LeO.none _)
      | (with_reducible refine LeO.ite ?_ ?_)
      | (with_reducible refine LeO.bind ?_ (fun _ => ?_))
      | exact ih0 _ _ _ _ _
      | exact ih1 _ _ _ _ _ _ _
      | exact ih2 _ _ _ _
      | exact ih3 _ _ _ _ _
      | exact ih4 _ _ _ _ _ _ _ _
      | exact ih5 _ _ _ _ _ _ _ _ _
      | exact impl_CongAck.mono _ _ _ _ _ _
      | exact LeO.none _
      | refine LeO.ite ?_ ?_
      | refine LeO.bind ?_ (fun _ => ?_)
    · intro y0 y1 y2 y3 y4
      unfold impl_Share.l1
      repeat' first
      | (with_reducible exact ih0 _ _ _ _ _)
      | (with_reducible exact ih1 _ _ _ _ _ _ _)
      | (with_reducible exact ih2 _ _ _ _)
      | (with_reducible exact ih3 _ _ _ _ _)
      | (with_reducible exact ih4 _ _ _ _ _ _ _ _)
      | (with_reducible exact ih5 _ _ _ _ _ _ _ _ _)
      | (with_reducible exact impl_CongAck.mono _ _ _ _ _ _)
      | (with_reducible exact LeO.refl _)
      | (with_reducible exact LeO.none _)
      | (with_reducible refine LeO.ite ?_ ?_)
      | (with_reducible refine LeO.bind ?_ (fun _ => ?_))
      | exact ih0 _ _ _ _ _
      | exact ih1 _ _ _ _ _ _ _
      | exact ih2 _ _ _ _
      | exact ih3 _ _ _ _ _
      | exact ih4 _ _ _ _ _ _ _ _
      | exact ih5 _ _ _ _ _ _ _ _ _
      | exact impl_CongAck.mono _ _ _ _ _ _
      | exact LeO.none _
      | refine LeO.ite ?_ ?_
      | refine LeO.bind ?_ (fun _ => ?_)
    · intro y0 y1 y2 y3 y4 y5 y6 y7
      unfold impl_Share.l2
      repeat' first
      | (with_reducible exact ih0 _ _ _ _ _)
      | (with_reducible exact ih1 _ _ _ _ _ _ _)
      | (with_reducible exact ih2 _ _ _ _)
      | (with_reducible exact ih3 _ _ _ _ _)
      | (with_reducible exact ih4 _ _ _ _ _ _ _ _)
      | (with_reducible exact ih5 _ _ _ _ _ _ _ _ _)
      | (with_reducible exact impl_CongAck.mono _ _ _ _ _ _)
      | (with_reducible exact LeO.refl _)
      | (with_reducible exact LeO.none _)
      | (with_reducible refine LeO.ite ?_ ?_)
      | (with_reducible refine LeO.bind ?_ (fun _ => ?_))
      | exact ih0 _ _ _ _ _
      | exact ih1 _ _ _ _ _ _ _
      | exact ih2 _ _ _ _
      | exact ih3 _ _ _ _ _
      | exact ih4 _ _ _ _ _ _ _ _
      | exact ih5 _ _ _ _ _ _ _ _ _
      | exact impl_CongAck.mono _ _ _ _ _ _
      | exact LeO.none _
      | refine LeO.ite ?_ ?_
      | refine LeO.bind ?_ (fun _ => ?_)
    · intro y0 y1 y2 y3 y4 y5 y6 y7 y8
      unfold impl_Share.l3
      repeat' first
      | (with_reducible exact ih0 _ _ _ _ _)
      | (with_reducible exact ih1 _ _ _ _ _ _ _)
      | (with_reducible exact ih2 _ _ _ _)
      | (with_reducible exact ih3 _ _ _ _ _)
      | (with_reducible exact ih4 _ _ _ _ _ _ _ _)
      | (with_reducible exact ih5 _ _ _ _ _ _ _ _ _)
      | (with_reducible exact impl_CongAck.mono _ _ _ _ _ _)
      | (with_reducible exact LeO.refl _)
      | (with_reducible exact LeO.none _)
      | (with_reducible refine LeO.ite ?_ ?_)
      | (with_reducible refine LeO.bind ?_ (fun _ => ?_))
      | exact ih0 _ _ _ _ _
      | exact ih1 _ _ _ _ _ _ _
      | exact ih2 _ _ _ _
      | exact ih3 _ _ _ _ _
      | exact ih4 _ _ _ _ _ _ _ _
      | exact ih5 _ _ _ _ _ _ _ _ _
      | exact impl_CongAck.mono _ _ _ _ _ _
      | exact LeO.none _
      | refine LeO.ite ?_ ?_
      | refine LeO.bind ?_ (fun _ => ?_)
theorem impl_Share.mono : ∀ a0 a1 a2 a3 k, LeO (impl_Share.f k a0 a1 a2 a3) (impl_Share.f (k + 1) a0 a1 a2 a3) := by
 intro a0 a1 a2 a3 k
 obtain ⟨ih0, ih1, ih2, ih3, ih4, ih5⟩ := impl_Share.mono_l k
 unfold impl_Share.f
 repeat' first
     | (with_reducible exact ih0 _ _ _ _ _)
     | (with_reducible exact ih1 _ _ _ _ _ _ _)
     | (with_reducible exact ih2 _ _ _ _)
     | (with_reducible exact ih3 _ _ _ _ _)
     | (with_reducible exact ih4 _ _ _ _ _ _ _ _)
     | (with_reducible exact ih5 _ _ _ _ _ _ _ _ _)
     | (with_reducible exact impl_CongAck.mono _ _ _ _ _ _)
     | (with_reducible exact LeO.refl _)
     | (with_reducible exact LeO.none _)
     | (with_reducible refine LeO.ite ?_ ?_)
     | (with_reducible refine LeO.bind ?_ (fun _ => ?_))
     | exact ih0 _ _ _ _ _
     | exact ih1 _ _ _ _ _ _ _
     | exact ih2 _ _ _ _
     | exact ih3 _ _ _ _ _
     | exact ih4 _ _ _ _ _ _ _ _
     | exact ih5 _ _ _ _ _ _ _ _ _
     | exact impl_CongAck.mono _ _ _ _ _ _
     | exact LeO.none _
     | refine LeO.ite ?_ ?_
     | refine LeO.bind ?_ (fun _ => ?_)
def impl_Share.T29 : Bool × List (List Nat × List Nat) := (true, [([], []), ([0], [0]), ([], []), ([], []), ([2, 3], [2, 3]), ([4], [4]), ([5], [5]), ([6], [6]), ([1, 7], [1, 7]), ([0, 1, 2, 3, 4, 5, 6, 7, 8], []), ([9, 8, 8, 0, 1, 2, 3, 4, 5, 6, 7, 8], [8, 9])])
def impl_Share.B29 : List Nat := [0, 1, 0, 0, 12, 28, 60, 124, 255, 511, 1023]
theorem impl_Share.tab29 : rtab .any (opsOf Try.f16 29) = impl_Share.T29 := by kernel_rfl
theorem impl_Share.bits29 : waitsOk impl_Share.T29.2 impl_Share.B29 = true := by kernel_rfl
set_option maxHeartbeats 60000000 in
set_option maxRecDepth 100000 in
theorem impl_Share.calls (k : Nat) (a0 : Int) (a1 : Int) (A2 : Option Addr) (c2 : Nat) (l2 : List Int) (a3 : Int) (r1 : List (S35)) (r2 : Int) (w : World) (hr2 : Kd.C (Kd.int .i64) w A2 l2.length l2) (hc2 : l2.length ≤ c2) (h : impl_Share.f k a0 a1 l2 a3 = some (r1, r2)) :
 Calls Try.prog 16 #[.int .i64 a0, .int .i64 a1, .slice A2 l2.length c2, .int .i64 a3] w fun e w' => ∃ v0_ : Value, e = .returned (.tuple #[v0_, .int .i64 r2]) ∧ Kd.S k35 35 w' w.heap.size (fun _ => True) v0_ r1 ∧ Below w.heap.size w w' := by
 have hu112 := Try.underlying112
 have hu35 := Try.underlying35
 have HR2 := Aside0.mk hr2
 have HC2 := Aside0.mk hc2
 clear hr2 hc2
 have HB := Aside0.mk (Below.refl w.heap.size w)
 have H : (if a0 < 1 then (impl_Share.j0 k a0 a1 l2 a3 true) else (if a0 > 65535 then (impl_Share.j0 k a0 a1 l2 a3 true) else (if a1 < 1 then (impl_Share.j0 k a0 a1 l2 a3 true) else (if a1 > 1073741824 then (impl_Share.j0 k a0 a1 l2 a3 true) else (if a3 < 0 then (impl_Share.j0 k a0 a1 l2 a3 true) else (impl_Share.j0 k a0 a1 l2 a3 (decide (a3 > 2000)))))))) = some (r1, r2) := h
 clear h
 have HC5 := Aside0.mk H
 clear H
 go_enter Try.func16, Try.ntmps16
 go_upto_region 1 with (fail)
 go_cut [41] (fun v41 wc => ∃ (kq : Nat) (x41_4 : Bool), v41 = .bool x41_4 ∧ Aside0 (impl_Share.j0 kq a0 a1 l2 a3 x41_4 = some (r1, r2)) ∧ Aside0 (kq ≤ k) ∧ Aside0 (Below w.heap.size w wc))
 case first => (
 have H := HC5.out
 clear HC5
 by_cases c1001 : a0 < 1
 rw [if_pos c1001] at H
 have c1001b0 : decide (a0 < 1) = true := decide_eq_true c1001
 clear c1001
 (first | rw [c1001b0] | (simp only [i64_w, i32_w]; rw [c1001b0]) | skip)
 have H' := Aside0.mk H
 clear H
 rotate_left
 rw [if_neg c1001] at H
 have c1001b0 : decide (a0 < 1) = false := decide_eq_false c1001
 clear c1001
 (first | rw [c1001b0] | (simp only [i64_w, i32_w]; rw [c1001b0]) | skip)
 by_cases c1002 : a0 > 65535
 rw [if_pos c1002] at H
 have c1002b0 : decide (65535 < a0) = true := decide_eq_true c1002
 clear c1002
 have H' := Aside0.mk H
 clear H
 rotate_left
 rw [if_neg c1002] at H
 have c1002b0 : decide (65535 < a0) = false := decide_eq_false c1002
 clear c1002
 by_cases c1003 : a1 < 1
 rw [if_pos c1003] at H
 have c1003b0 : decide (a1 < 1) = true := decide_eq_true c1003
 clear c1003
 have H' := Aside0.mk H
 clear H
 rotate_left
 rw [if_neg c1003] at H
 have c1003b0 : decide (a1 < 1) = false := decide_eq_false c1003
 clear c1003
 by_cases c1004 : a1 > 1073741824
 rw [if_pos c1004] at H
 have c1004b0 : decide (1073741824 < a1) = true := decide_eq_true c1004
 clear c1004
 have H' := Aside0.mk H
 clear H
 rotate_left
 rw [if_neg c1004] at H
 have c1004b0 : decide (1073741824 < a1) = false := decide_eq_false c1004
 clear c1004
 by_cases c1005 : a3 < 0
 rw [if_pos c1005] at H
 have c1005b0 : decide (a3 < 0) = true := decide_eq_true c1005
 clear c1005
 have H' := Aside0.mk H
 clear H
 rotate_left
 rw [if_neg c1005] at H
 have c1005b0 : decide (a3 < 0) = false := decide_eq_false c1005
 clear c1005
 have H' := Aside0.mk H
 clear H
 rotate_left
 all_goals (
 go_wp2
 go_meet
 )
 iterate 5 (
 focus (
 case rel => exact ⟨_, (true), (by first | rfl | (simp; done) | (simp [*]; done)), H', ⟨by first | omega | exact Nat.le_refl _⟩, ⟨wB⟩⟩
 )
 )
 {
 case rel => exact ⟨_, (decide (a3 > 2000)), (by first | rfl | (simp; done) | (simp [*]; done)), H', ⟨by first | omega | exact Nat.le_refl _⟩, ⟨wB⟩⟩
 }
 )
 case rest => (
 clear HC5
 try clear c1001
 try clear c1001b0
 try clear c1002
 try clear c1002b0
 try clear c1003
 try clear c1003b0
 try clear c1004
 try clear c1004b0
 try clear c1005
 try clear c1005b0
 obtain ⟨kq, x41_4, rfl, HA, HJ4, HB⟩ := hcut
 cases kq with
 | zero => exact absurd HA.out (by simp [impl_Share.j0])
 | succ kj4 => {
 have H := HA.out
 clear HA
 simp only [impl_Share.j0] at H
 by_cases c1006 : x41_4 = true
 {
 subst c1006
 have H1 : (some (([] : List (S35)), 1)) = some (r1, r2) := by rw [if_pos rfl] at H; exact H
 clear H
 have H := H1
 clear H1
 simp only [Option.some.injEq, Prod.mk.injEq] at H
 obtain ⟨rfl, rfl⟩ := H
 go_wp2
 go_ret2
 exact ⟨_, by first | rfl | (simp [errW_none, errW_some] <;> rfl) | (simp [*, errW_none, errW_some] <;> rfl), by first | exact Kd.S_nil _ _ _ _ _ | exact Kd.N_nil _ _ _ _ _ | exact Kd.V_nil _ _ _ _ _ | exact Kd.Q_nil _ _ _ _ _ | exact Kd.R_nil _ _ _ _ _, wB⟩
 }
 {
 replace c1006 := Bool.eq_false_iff.mpr c1006
 subst c1006
 have H1 : (impl_Share.l0 kj4 a0 a1 a3 ([] : List (S112)) l2 (l2.length : Int) 0) = some (r1, r2) := by rw [if_neg (show ¬ (false = true) by decide)] at H; exact H
 clear H
 have H := H1
 clear H1
 have H' := Aside0.mk H
 clear H
 go_wp2
 go_loopg [10, 44] kj4 (fun kq v10 v44 w' => ∃ (x10_2 : List (S112)) (x44_2 : Int), v44 = .int .i64 x44_2 ∧ Aside0 (impl_Share.l0 kq a0 a1 a3 x10_2 l2 (l2.length : Int) x44_2 = some (r1, r2)) ∧ Aside0 (kq ≤ kj4) ∧ Aside0 (Kd.R k112 112 w' w.heap.size (fun _ => True) v10 x10_2) ∧ Aside0 (Below w.heap.size w w'))
 case atStart => exact ⟨(([] : List (S112))), (0), (by first | rfl | (simp; done) | (simp [*]; done)), H', ⟨Nat.le_refl _⟩, ⟨by first | exact Kd.R_nil _ _ _ _ _ | exact Kd.N_nil _ _ _ _ _ | exact Kd.V_nil _ _ _ _ _ | exact Kd.Q_nil _ _ _ _ _ | exact Kd.S_nil _ _ _ _ _⟩, ⟨wB⟩⟩
 case round => (
 clear H'
 try clear c1001
 try clear c1001b0
 try clear c1002
 try clear c1002b0
 try clear c1003
 try clear c1003b0
 try clear c1004
 try clear c1004b0
 try clear c1005
 try clear c1005b0
 try clear c1006
 obtain ⟨x10_2, x44_2, rfl, HA, HK2, HO_10, HB⟩ := hrel
 cases gk with
 | zero => exact absurd HA.out (by simp [impl_Share.l0])
 | succ k2 => {
 have H := HA.out
 clear HA
 simp only [impl_Share.l0] at H
 by_cases c2001 : x44_2 < (l2.length : Int)
 rw [if_pos c2001] at H
 have c2001b0 : decide (x44_2 < (l2.length : Int)) = true := decide_eq_true c2001
 clear c2001
 by_cases c2002 : 0 ≤ x44_2
 rw [if_pos c2002] at H
 have c2002b0 : decide (0 ≤ x44_2) = true := decide_eq_true c2002
 clear c2002
 by_cases c2003 : x44_2 < (l2.length : Int)
 rw [if_pos c2003] at H
 have c2003b0 : decide (x44_2 < (l2.length : Int)) = true := decide_eq_true c2003
 clear c2003
 by_cases c2004 : (rd l2 x44_2) < (wrap64 (2 * a0))
 rw [if_pos c2004] at H
 have c2004b0 : decide ((rd l2 x44_2) < (wrap64 (2 * a0))) = true := decide_eq_true c2004
 clear c2004
 simp only [Option.some.injEq, Prod.mk.injEq] at H
 obtain ⟨rfl, rfl⟩ := H
 rotate_left
 rw [if_neg c2004] at H
 have c2004b0 : decide ((rd l2 x44_2) < (wrap64 (2 * a0))) = false := decide_eq_false c2004
 clear c2004
 by_cases c2005 : (rd l2 x44_2) > 1073741824
 rw [if_pos c2005] at H
 have c2005b0 : decide (1073741824 < (rd l2 x44_2)) = true := decide_eq_true c2005
 clear c2005
 simp only [Option.some.injEq, Prod.mk.injEq] at H
 obtain ⟨rfl, rfl⟩ := H
 rotate_left
 rw [if_neg c2005] at H
 have c2005b0 : decide (1073741824 < (rd l2 x44_2)) = false := decide_eq_false c2005
 clear c2005
 by_cases c2006 : x10_2.length < 4398046511104
 rw [if_pos c2006] at H
 have LMc2006 := Aside0.mk c2006
 clear c2006
 obtain ⟨y119, hy119⟩ : ∃ y_ : List (S112), y_ = (x10_2 ++ [(⟨a0, rd l2 x44_2, wrap64 (2 * a0), 0⟩ : S112)]) := ⟨_, rfl⟩
 replace H : (impl_Share.l0 k2 a0 a1 a3 y119 l2 (l2.length : Int) (wrap64 (x44_2 + 1))) = some (r1, r2) := by first | (rw [hy119]; with_reducible exact H) | (have H2_ := (Option.bind_some _ _).symm.trans H; rw [hy119]; with_reducible exact H2_) | (have H2_ := (Option.bind_some _ _).symm.trans H; with_reducible exact H2_) | with_reducible exact H | (rw [hy119]; exact H) | exact H
 have Ny119 := Aside0.mk hy119
 clear hy119
 have H' := Aside0.mk H
 clear H
 rotate_left
 rw [if_neg c2006] at H
 exact absurd H (by simp)
 rw [if_neg c2003] at H
 exact absurd H (by simp)
 rw [if_neg c2002] at H
 exact absurd H (by simp)
 rw [if_neg c2001] at H
 have c2001b0 : decide (x44_2 < (l2.length : Int)) = false := decide_eq_false c2001
 clear c2001
 have HC2007 := Aside0.mk H
 clear H
 rotate_left
 iterate 3 (
 focus (
 have p118 : 0 ≤ (x44_2 : Int) := of_decide_eq_true (by first | (with_reducible assumption) | assumption)
 have q118 : x44_2 < (l2.length : Int) := of_decide_eq_true (by first | (with_reducible assumption) | assumption)
 obtain ⟨ad118, e118, hx118_0⟩ := Kd.at_int HR2.out x44_2 p118 q118
 cases e118
 replace hx118_0 := (HB.out.cell (World.block_lt_of_cell? w _ hx118_0)).trans hx118_0
 replace p118 := eq_true p118
 replace q118 := eq_true q118
 )
 rotate_left
 )
 rotate_right 3
 iterate 2 (
 focus (
 go_wp2
 go_ret2
 exact ⟨_, by first | rfl | (simp [errW_none, errW_some] <;> rfl) | (simp [*, errW_none, errW_some] <;> rfl), by first | exact Kd.S_nil _ _ _ _ _ | exact Kd.N_nil _ _ _ _ _ | exact Kd.V_nil _ _ _ _ _ | exact Kd.Q_nil _ _ _ _ _ | exact Kd.R_nil _ _ _ _ _, wB⟩
 )
 )
 {
 go_wp2_with (first | ((with_reducible refine gate_builtin (b := .append) (xs := #[.tmp 56, .tmp 62]) rfl ?_); (try (refine gate_guard (by rfl) ?_; dsimp only)); at_builtin; refine Kd.R_append k112 (w0 := w) w.heap.size rfl (.tmp 56) (.tmp 62) 110 112 (.agg #[(.int .i64 0), (.int .i64 0), (.int .i64 0), (.int .i64 0)]) 32 rfl Try.underlying110 info112 rfl (by decide) (by omega) u10 x10_2 (⟨a0, rd l2 x44_2, wrap64 (2 * a0), 0⟩ : S112) [.int .i64 a0, .int .i64 (rd l2 x44_2), .int .i64 (wrap64 (2 * a0)), .int .i64 0] (fun _ => True) (fun _ => False) rfl rfl ?aP (fun _ hk => hk.elim) ?aF ?aO ?aB ?aS ?aL ?_; (case aP => exact k112_mkM _ _ _ (⟨a0, rd l2 x44_2, wrap64 (2 * a0), 0⟩ : S112)); (case aB => exact wB); (case aF => exact (fun _ _ => trivial)); (case aO => exact (Rh HO_10)); (case aS => exact (below_size wB)); (case aL => have := LMc2006.out; omega); intro v120 w3001 ho hb hg hat; rw [← Ny119.out] at ho; have n0_ := Aside0.mk (hb); have n1_ := Aside0.mk (ho); clear HB; clear HO_10; have HB := n0_; have HO121 := n1_; clear n0_ n1_; clear ho hb hg hat))
 go_roundg k2
 case measure => have := HJ4.out; have := HK2.out; omega
 case rel => exact ⟨(y119), (wrap64 (x44_2 + 1)), (by first | rfl | (simp; done) | (simp [*]; done)), H', ⟨by have := HJ4.out; have := HK2.out; omega⟩, ⟨Rh HO121⟩, ⟨wB⟩⟩
 }
 {
 go_upto_region 11 with (fail)
 go_cut [72] (fun v72 wc => ∃ (kq : Nat) (x72_2006 : Bool), v72 = .bool x72_2006 ∧ Aside0 (impl_Share.j2 kq a1 a3 x10_2 x72_2006 = some (r1, r2)) ∧ Aside0 (kq ≤ k2) ∧ Aside0 (Kd.R k112 112 wc w.heap.size (fun _ => True) u10 x10_2) ∧ Aside0 (Below w.heap.size w wc))
 case first => (
 have H := HC2007.out
 clear HC2007
 by_cases c3001 : (x10_2.length : Int) < 1
 {
 rw [if_pos c3001] at H
 have c3001b0 : decide ((x10_2.length : Int) < 1) = true := decide_eq_true c3001
 have c3001b1 : decide (x10_2.length < 1) = true := decide_eq_true (by omega)
 clear c3001
 (first | rw [c3001b0] | rw [c3001b1] | (simp only [i64_w, i32_w]; rw [c3001b0]) | skip)
 have H' := Aside0.mk H
 clear H
 obtain ⟨Ao4001, co4001, eo4001⟩ := Kd.R_slice HO_10.out
 subst eo4001
 go_wp2
 go_meet
 case rel => exact ⟨_, (true), (by first | rfl | (simp; done) | (simp [*]; done)), H', ⟨by have := HJ4.out; have := HK2.out; first | omega | exact Nat.le_refl _⟩, ⟨Rh HO_10⟩, ⟨wB⟩⟩
 }
 {
 rw [if_neg c3001] at H
 have c3001b0 : decide ((x10_2.length : Int) < 1) = false := decide_eq_false c3001
 have c3001b1 : decide (x10_2.length < 1) = false := decide_eq_false (by omega)
 clear c3001
 (first | rw [c3001b0] | rw [c3001b1] | (simp only [i64_w, i32_w]; rw [c3001b0]) | skip)
 have H' := Aside0.mk H
 clear H
 obtain ⟨Ao4001, co4001, eo4001⟩ := Kd.R_slice HO_10.out
 subst eo4001
 go_wp2
 go_meet
 case rel => exact ⟨_, (decide ((x10_2.length : Int) > 64)), (by first | rfl | (simp; done) | (simp [*]; done)), H', ⟨by have := HJ4.out; have := HK2.out; first | omega | exact Nat.le_refl _⟩, ⟨Rh HO_10⟩, ⟨wB⟩⟩
 }
 )
 case rest => (
 clear HC2007
 try clear p118
 try clear q118
 try clear hx118
 try clear c1001
 try clear c1001b0
 try clear c1002
 try clear c1002b0
 try clear c1003
 try clear c1003b0
 try clear c1004
 try clear c1004b0
 try clear c1005
 try clear c1005b0
 try clear c1006
 try clear c2001
 try clear c2001b0
 try clear c2002
 try clear c2002b0
 try clear c2003
 try clear c2003b0
 try clear c2004
 try clear c2004b0
 try clear c2005
 try clear c2005b0
 try clear c2006
 try clear c3001
 try clear c3001b0
 try clear c3001b1
 try clear hx118_0
 try clear p118
 try clear q118
 obtain ⟨kq, x72_2006, rfl, HA, HJ2006, HO_10, HB⟩ := hcut
 cases kq with
 | zero => exact absurd HA.out (by simp [impl_Share.j2])
 | succ kj2006 => {
 have H := HA.out
 clear HA
 simp only [impl_Share.j2] at H
 by_cases c3002 : x72_2006 = true
 {
 subst c3002
 have H1 : (some (([] : List (S35)), 8)) = some (r1, r2) := by rw [if_pos rfl] at H; exact H
 clear H
 have H := H1
 clear H1
 simp only [Option.some.injEq, Prod.mk.injEq] at H
 obtain ⟨rfl, rfl⟩ := H
 go_wp2
 go_ret2
 exact ⟨_, by first | rfl | (simp [errW_none, errW_some] <;> rfl) | (simp [*, errW_none, errW_some] <;> rfl), by first | exact Kd.S_nil _ _ _ _ _ | exact Kd.N_nil _ _ _ _ _ | exact Kd.V_nil _ _ _ _ _ | exact Kd.Q_nil _ _ _ _ _ | exact Kd.R_nil _ _ _ _ _, wB⟩
 }
 {
 replace c3002 := Bool.eq_false_iff.mpr c3002
 subst c3002
 have H1 : (impl_Share.l1 kj2006 a1 x10_2 ([] : List (S35)) a3 0) = some (r1, r2) := by rw [if_neg (show ¬ (false = true) by decide)] at H; exact H
 clear H
 have H := H1
 clear H1
 have H' := Aside0.mk H
 clear H
 go_wp2
 go_loopg [13, 74] kj2006 (fun kq v13 v74 w' => ∃ (x10_4 : List (S112)) (x13_4 : List (S35)) (x74_4 : Int), v74 = .int .i64 x74_4 ∧ Aside0 (impl_Share.l1 kq a1 x10_4 x13_4 a3 x74_4 = some (r1, r2)) ∧ Aside0 (kq ≤ kj2006) ∧ Aside0 (Kd.R k112 112 w' w.heap.size (fun _ => True) u10 x10_4) ∧ Aside0 (Kd.S k35 35 w' w.heap.size (fun _ => True) v13 x13_4) ∧ Aside0 (Below w.heap.size w w'))
 case atStart => exact ⟨(x10_2), (([] : List (S35))), (0), (by first | rfl | (simp; done) | (simp [*]; done)), H', ⟨Nat.le_refl _⟩, ⟨Rh HO_10⟩, ⟨by first | exact Kd.S_nil _ _ _ _ _ | exact Kd.N_nil _ _ _ _ _ | exact Kd.V_nil _ _ _ _ _ | exact Kd.Q_nil _ _ _ _ _ | exact Kd.R_nil _ _ _ _ _⟩, ⟨wB⟩⟩
 case round => (
 clear H'
 try clear p118
 try clear q118
 try clear hx118
 try clear c1001
 try clear c1001b0
 try clear c1002
 try clear c1002b0
 try clear c1003
 try clear c1003b0
 try clear c1004
 try clear c1004b0
 try clear c1005
 try clear c1005b0
 try clear c1006
 try clear c2001
 try clear c2001b0
 try clear c2002
 try clear c2002b0
 try clear c2003
 try clear c2003b0
 try clear c2004
 try clear c2004b0
 try clear c2005
 try clear c2005b0
 try clear c2006
 try clear c3001
 try clear c3001b0
 try clear c3001b1
 try clear c3002
 try clear hx118_0
 try clear p118
 try clear q118
 obtain ⟨x10_4, x13_4, x74_4, rfl, HA, HK4, HO_10, HO_13, HB⟩ := hrel
 cases gk with
 | zero => exact absurd HA.out (by simp [impl_Share.l1])
 | succ k4 => {
 have H := HA.out
 clear HA
 simp only [impl_Share.l1] at H
 by_cases c4001 : x74_4 < a3
 {
 rw [if_pos c4001] at H
 have c4001b0 : decide (x74_4 < a3) = true := decide_eq_true c4001
 clear c4001
 have H' := Aside0.mk H
 clear H
 obtain ⟨Ao5001, co5001, eo5001⟩ := Kd.R_slice HO_10.out
 subst eo5001
 go_wp2
 go_loopg [14, 78] k4 (fun kq v14 v78 w' => ∃ (x14_5 : Int) (x78_5 : Int), v14 = .int .i64 x14_5 ∧ v78 = .int .i64 x78_5 ∧ Aside0 (impl_Share.l2 kq a1 x10_4 x13_4 x14_5 a3 x74_4 (x10_4.length : Int) x78_5 = some (r1, r2)) ∧ Aside0 (kq ≤ k4) ∧ Aside0 (Kd.R k112 112 w' w.heap.size (fun _ => True) (.slice Ao5001 x10_4.length co5001) x10_4) ∧ Aside0 (Kd.S k35 35 w' w.heap.size (fun _ => True) u13 x13_4) ∧ Aside0 (Below w.heap.size w w'))
 case atStart => exact ⟨(0), (0), (by first | rfl | (simp; done) | (simp [*]; done)), (by first | rfl | (simp; done) | (simp [*]; done)), H', ⟨Nat.le_refl _⟩, ⟨Rh HO_10⟩, ⟨Sh HO_13⟩, ⟨wB⟩⟩
 case round => (
 clear H'
 try clear p118
 try clear q118
 try clear hx118
 try clear c1001
 try clear c1001b0
 try clear c1002
 try clear c1002b0
 try clear c1003
 try clear c1003b0
 try clear c1004
 try clear c1004b0
 try clear c1005
 try clear c1005b0
 try clear c1006
 try clear c2001
 try clear c2001b0
 try clear c2002
 try clear c2002b0
 try clear c2003
 try clear c2003b0
 try clear c2004
 try clear c2004b0
 try clear c2005
 try clear c2005b0
 try clear c2006
 try clear c3001
 try clear c3001b0
 try clear c3001b1
 try clear c3002
 try clear c4001
 try clear c4001b0
 try clear hx118_0
 try clear p118
 try clear q118
 obtain ⟨x14_5, x78_5, rfl, rfl, HA, HK5, HO_10, HO_13, HB⟩ := hrel
 cases gk with
 | zero => exact absurd HA.out (by simp [impl_Share.l2])
 | succ k5 => {
 have H := HA.out
 clear HA
 simp only [impl_Share.l2] at H
 by_cases c5002 : x78_5 < (x10_4.length : Int)
 {
 rw [if_pos c5002] at H
 have c5002b0 : decide (x78_5 < (x10_4.length : Int)) = true := decide_eq_true c5002
 clear c5002
 by_cases c5003 : 0 ≤ x78_5
 {
 rw [if_pos c5003] at H
 have c5003b0 : decide (0 ≤ x78_5) = true := decide_eq_true c5003
 clear c5003
 by_cases c5004 : x78_5 < (x10_4.length : Int)
 {
 rw [if_pos c5004] at H
 have c5004b0 : decide (x78_5 < (x10_4.length : Int)) = true := decide_eq_true c5004
 clear c5004
 have H' := Aside0.mk H
 clear H
 have p122 : 0 ≤ (x78_5 : Int) := of_decide_eq_true (by first | (with_reducible assumption) | assumption)
 have q122 : x78_5 < (x10_4.length : Int) := of_decide_eq_true (by first | (with_reducible assumption) | assumption)
 obtain ⟨ad122, e122, hx122_0, hx122_1, hx122_2, hx122_3⟩ := at_T112 (Kd.R_reads' HO_10.out).2.2 x78_5 p122 q122
 cases e122
 replace p122 := eq_true p122
 replace q122 := eq_true q122
 go_wp2_with (first | ((with_reducible refine gate_dst (N := 16) rfl ?_); (try (refine gate_guard (by rfl) ?_; dsimp only)); refine box_event ?hg (N := 16) ?hd (cs := #[.int .i64 0, .int .i64 0, .int .i64 0, .int .i64 0]) (t := 112) ?hr ?_; (case hd => rfl); (case hg => rfl); (case hr => first | (go_simp; done) | (go_simp; rfl)); intro gb123 hg w6001 hbox hb; have n0_ := Aside0.mk (Kd.R_below (Kd.R_elderB (Rh HO_10) gb123 (Nat.le_of_eq hg.symm)) hb); have n1_ := Aside0.mk (Kd.S_below (Sh HO_13) hb); have n2_ := Aside0.mk (below_step wB hb); have n3_ := Aside0.mk (hbox); have n4_ := Aside0.mk ((by rw [hg]; exact (below_size wB) : w.heap.size ≤ gb123)); have n5_ := Aside0.mk ((by rw [hg]; exact (below_size wB) : w.heap.size ≤ gb123)); clear HO_10; clear HO_13; clear HB; have HO_10 := n0_; have HO_13 := n1_; have HB := n2_; have BK123 := n3_; have GW123 := n4_; have GE123 := n5_; clear n0_ n1_ n2_ n3_ n4_ n5_; clear hb hbox hg; obtain ⟨⟨hcz6002_0, hcz6002_1, hcz6002_2, hcz6002_3⟩, hfz6002_0, hfz6002_1, hfz6002_2, hfz6002_3⟩ := cells4 BK123.out) | ((with_reducible refine gate_store (t := 112) (p := 16) rfl ?_); (try (rw [drewN_self w6001]; generalize hq_ : World.drewN w6001 _ = w6001; have n0_ := Aside0.mk (Kd.R_at hq_ HO_10.out); have n1_ := Aside0.mk (Kd.S_at hq_ HO_13.out); have n2_ := Aside0.mk (blk_at hq_ BK123.out); have n3_ := Aside0.mk (below_at hq_ HB.out); clear hq_ HO_10 HO_13 BK123 HB; have HO_10 := n0_; have HO_13 := n1_; have BK123 := n2_; have HB := n3_; clear n0_ n1_ n2_ n3_; (try (obtain ⟨⟨hcyBK123_0, hcyBK123_1, hcyBK123_2, hcyBK123_3⟩, hfyBK123_0, hfyBK123_1, hfyBK123_2, hfyBK123_3⟩ := cells4 BK123.out)))); refine store_event (t := 112) (p := 16) (v := ?_) (w1 := ((((w6001.setCell ⟨gb123, 0, none⟩ (.int .i64 ((rd_T112 x10_4 x78_5).f0))).setCell ⟨gb123, 1, none⟩ (.int .i64 ((rd_T112 x10_4 x78_5).f1))).setCell ⟨gb123, 2, none⟩ (.int .i64 ((rd_T112 x10_4 x78_5).f2))).setCell ⟨gb123, 3, none⟩ (.int .i64 ((rd_T112 x10_4 x78_5).f3)))) ?hg ?ho ?hn ?hr ?_; (case ho => rfl); (case hg => rfl); (case hn => rfl); (case hr => first | (go_simp; done) | (go_simp; rfl)); intro w6003 hw; have n0_ : Aside0 (Kd.R k112 112 w6003 w.heap.size (fun k_ => k_ ≠ gb123) (.slice (some ad122) x10_4.length co5001) x10_4) := ⟨(by rw [hw]; exact (by (with_reducible repeat (first | apply Kd.R_alloc | apply Kd.R_drewN | apply Kd.R_drew)); exact Kd.R_mono (Kd.R_far (p := ⟨gb123, 3, none⟩) (Kd.R_far (p := ⟨gb123, 2, none⟩) (Kd.R_far (p := ⟨gb123, 1, none⟩) (Kd.R_far (p := ⟨gb123, 0, none⟩) (Kd.R_mono HO_10.out (fun k_ hk => (⟨hk, hk.2⟩ : _ ∧ k_ ≠ gb123))) (fun _ hk => hk.2) (.int .i64 ((rd_T112 x10_4 x78_5).f0))) (fun _ hk => hk.2) (.int .i64 ((rd_T112 x10_4 x78_5).f1))) (fun _ hk => hk.2) (.int .i64 ((rd_T112 x10_4 x78_5).f2))) (fun _ hk => hk.2) (.int .i64 ((rd_T112 x10_4 x78_5).f3))) (fun _ hk => hk.1.2)))⟩; have n1_ : Aside0 (Kd.S k35 35 w6003 w.heap.size (fun _ => True) u13 x13_4) := ⟨(by rw [hw]; exact (by (with_reducible repeat (first | apply Kd.S_alloc | apply Kd.S_drewN | apply Kd.S_drew)); exact Kd.S_mono (Kd.S_far (p := ⟨gb123, 3, none⟩) (Kd.S_far (p := ⟨gb123, 2, none⟩) (Kd.S_far (p := ⟨gb123, 1, none⟩) (Kd.S_far (p := ⟨gb123, 0, none⟩) (Kd.S_types HO_13.out BK123.out (by decide)) (fun _ hk => hk.2) (.int .i64 ((rd_T112 x10_4 x78_5).f0))) (fun _ hk => hk.2) (.int .i64 ((rd_T112 x10_4 x78_5).f1))) (fun _ hk => hk.2) (.int .i64 ((rd_T112 x10_4 x78_5).f2))) (fun _ hk => hk.2) (.int .i64 ((rd_T112 x10_4 x78_5).f3))) (fun _ hk => trivial)))⟩; have n2_ : Aside0 (w6003.heap[gb123]? = some (.cells #[.int .i64 ((rd_T112 x10_4 x78_5).f0), .int .i64 ((rd_T112 x10_4 x78_5).f1), .int .i64 ((rd_T112 x10_4 x78_5).f2), .int .i64 ((rd_T112 x10_4 x78_5).f3)] 112 (0, 0))) := ⟨(by rw [hw]; exact (by (with_reducible repeat (first | refine blk_drewN ?_ _ | refine blk_drew ?_ | refine blk_alloc ?_ _)); refine blk_put (cs := #[.int .i64 ((rd_T112 x10_4 x78_5).f0), .int .i64 ((rd_T112 x10_4 x78_5).f1), .int .i64 ((rd_T112 x10_4 x78_5).f2), .int .i64 0]) ?_ 3 _ rfl; (with_reducible repeat (first | refine blk_drewN ?_ _ | refine blk_drew ?_ | refine blk_alloc ?_ _)); refine blk_put (cs := #[.int .i64 ((rd_T112 x10_4 x78_5).f0), .int .i64 ((rd_T112 x10_4 x78_5).f1), .int .i64 0, .int .i64 0]) ?_ 2 _ rfl; (with_reducible repeat (first | refine blk_drewN ?_ _ | refine blk_drew ?_ | refine blk_alloc ?_ _)); refine blk_put (cs := #[.int .i64 ((rd_T112 x10_4 x78_5).f0), .int .i64 0, .int .i64 0, .int .i64 0]) ?_ 1 _ rfl; (with_reducible repeat (first | refine blk_drewN ?_ _ | refine blk_drew ?_ | refine blk_alloc ?_ _)); refine blk_put (cs := #[.int .i64 0, .int .i64 0, .int .i64 0, .int .i64 0]) ?_ 0 _ rfl; (with_reducible repeat (first | refine blk_drewN ?_ _ | refine blk_drew ?_ | refine blk_alloc ?_ _)); exact BK123.out))⟩; have n3_ : Aside0 (Below w.heap.size w w6003) := ⟨(by rw [hw]; exact wB)⟩; clear hw; clear HO_10; clear HO_13; clear BK123; clear HB; have HO_10 := n0_; have HO_13 := n1_; have BK123 := n2_; have HB := n3_; clear n0_ n1_ n2_ n3_; obtain ⟨⟨hcz6004_0, hcz6004_1, hcz6004_2, hcz6004_3⟩, hfz6004_0, hfz6004_1, hfz6004_2, hfz6004_3⟩ := cells4 BK123.out))
 go_roundg k5
 case measure => have := HJ4.out; have := HK2.out; have := HJ2006.out; have := HK4.out; have := HK5.out; omega
 case rel => exact ⟨(wrap64 (x14_5 + ((rd_T112 x10_4 x78_5).f1))), (wrap64 (x78_5 + 1)), (by first | rfl | (simp; done) | (simp [*]; done)), (by first | rfl | (simp; done) | (simp [*]; done)), H', ⟨by have := HJ4.out; have := HK2.out; have := HJ2006.out; have := HK4.out; have := HK5.out; omega⟩, ⟨Kd.R_mono (Rh HO_10) (fun _ hk => trivial)⟩, ⟨Sh HO_13⟩, ⟨wB⟩⟩
 }
 {
 rw [if_neg c5004] at H
 exact absurd H (by simp)
 }
 }
 {
 rw [if_neg c5003] at H
 exact absurd H (by simp)
 }
 }
 {
 rw [if_neg c5002] at H
 have c5002b0 : decide (x78_5 < (x10_4.length : Int)) = false := decide_eq_false c5002
 clear c5002
 have H' := Aside0.mk H
 clear H
 go_wp2_with (first | ((with_reducible refine gate_dst (N := 17) rfl ?_); (try (refine gate_guard (by rfl) ?_; dsimp only)); refine box_event ?hg (N := 17) ?hd (cs := #[.bool false, .slice none 0 0]) (t := 35) ?hr ?_; (case hd => rfl); (case hg => rfl); (case hr => first | (go_simp; done) | (go_simp; rfl)); intro gb124 hg w6001 hbox hb; have n0_ := Aside0.mk (Kd.R_below (Rh HO_10) hb); have n1_ := Aside0.mk (Kd.S_below (Kd.S_elderB (Sh HO_13) gb124 (Nat.le_of_eq hg.symm)) hb); have n2_ := Aside0.mk (below_step wB hb); have n3_ := Aside0.mk (hbox); have n4_ := Aside0.mk ((by rw [hg]; exact (below_size wB) : w.heap.size ≤ gb124)); have n5_ := Aside0.mk ((by rw [hg]; exact (below_size wB) : w.heap.size ≤ gb124)); clear HO_10; clear HO_13; clear HB; have HO_10 := n0_; have HO_13 := n1_; have HB := n2_; have BK124 := n3_; have GW124 := n4_; have GE124 := n5_; clear n0_ n1_ n2_ n3_ n4_ n5_; clear hb hbox hg; obtain ⟨⟨hcz6002_0, hcz6002_1⟩, hfz6002_0, hfz6002_1⟩ := cells2 BK124.out) | ((with_reducible refine gate_store (t := 35) (p := 17) rfl ?_); (try (rw [drewN_self w6001]; generalize hq_ : World.drewN w6001 _ = w6001; have n0_ := Aside0.mk (Kd.R_at hq_ HO_10.out); have n1_ := Aside0.mk (Kd.S_at hq_ HO_13.out); have n2_ := Aside0.mk (blk_at hq_ BK124.out); have n3_ := Aside0.mk (below_at hq_ HB.out); clear hq_ HO_10 HO_13 BK124 HB; have HO_10 := n0_; have HO_13 := n1_; have BK124 := n2_; have HB := n3_; clear n0_ n1_ n2_ n3_; (try (obtain ⟨⟨hcyBK124_0, hcyBK124_1⟩, hfyBK124_0, hfyBK124_1⟩ := cells2 BK124.out)))); refine store_event (t := 35) (p := 17) (v := ?_) (w1 := ((w6001.setCell ⟨gb124, 0, none⟩ (.bool (decide (x14_5 > a1)))).setCell ⟨gb124, 1, none⟩ (.slice none 0 0))) ?hg ?ho ?hn ?hr ?_; (case ho => rfl); (case hg => rfl); (case hn => rfl); (case hr => first | (go_simp; done) | (go_simp; rfl)); intro w6003 hw; have n0_ : Aside0 (Kd.R k112 112 w6003 w.heap.size (fun _ => True) (.slice Ao5001 x10_4.length co5001) x10_4) := ⟨(by rw [hw]; exact (by (with_reducible repeat (first | apply Kd.R_alloc | apply Kd.R_drewN | apply Kd.R_drew)); exact Kd.R_mono (Kd.R_far (p := ⟨gb124, 1, none⟩) (Kd.R_far (p := ⟨gb124, 0, none⟩) (Kd.R_types HO_10.out BK124.out (by decide)) (fun _ hk => hk.2) (.bool (decide (x14_5 > a1)))) (fun _ hk => hk.2) (.slice none 0 0)) (fun _ hk => trivial)))⟩; have n1_ : Aside0 (Kd.S k35 35 w6003 w.heap.size (fun k_ => k_ ≠ gb124) u13 x13_4) := ⟨(by rw [hw]; exact (by (with_reducible repeat (first | apply Kd.S_alloc | apply Kd.S_drewN | apply Kd.S_drew)); exact Kd.S_mono (Kd.S_far (p := ⟨gb124, 1, none⟩) (Kd.S_far (p := ⟨gb124, 0, none⟩) (Kd.S_mono HO_13.out (fun k_ hk => (⟨hk, hk.2⟩ : _ ∧ k_ ≠ gb124))) (fun _ hk => hk.2) (.bool (decide (x14_5 > a1)))) (fun _ hk => hk.2) (.slice none 0 0)) (fun _ hk => hk.1.2)))⟩; have n2_ : Aside0 (w6003.heap[gb124]? = some (.cells #[.bool (decide (x14_5 > a1)), .slice none 0 0] 35 (0, 0))) := ⟨(by rw [hw]; exact (by (with_reducible repeat (first | refine blk_drewN ?_ _ | refine blk_drew ?_ | refine blk_alloc ?_ _)); refine blk_put (cs := #[.bool (decide (x14_5 > a1)), .slice none 0 0]) ?_ 1 _ rfl; (with_reducible repeat (first | refine blk_drewN ?_ _ | refine blk_drew ?_ | refine blk_alloc ?_ _)); refine blk_put (cs := #[.bool false, .slice none 0 0]) ?_ 0 _ rfl; (with_reducible repeat (first | refine blk_drewN ?_ _ | refine blk_drew ?_ | refine blk_alloc ?_ _)); exact BK124.out))⟩; have n3_ : Aside0 (Below w.heap.size w w6003) := ⟨(by rw [hw]; exact wB)⟩; clear hw; clear HO_10; clear HO_13; clear BK124; clear HB; have HO_10 := n0_; have HO_13 := n1_; have BK124 := n2_; have HB := n3_; clear n0_ n1_ n2_ n3_))
 generalize hbL6004 : (decide (x14_5 > a1)) = bL6004 at *
 go_loopg [93] k5 (fun kq v93 w' => ∃ (x10_6 : List (S112)) (x93_6 : Int) (x125001_6 : List Int) (u125001 : Value), v93 = .int .i64 x93_6 ∧ Aside0 (impl_Share.l3 kq a1 x10_6 x13_4 a3 x74_4 (x10_4.length : Int) x93_6 bL6004 x125001_6 = some (r1, r2)) ∧ Aside0 (kq ≤ k5) ∧ Aside0 (Kd.R k112 112 w' w.heap.size (fun _ => True) (.slice Ao5001 x10_4.length co5001) x10_6) ∧ Aside0 (Kd.S k35 35 w' w.heap.size (fun k_ => some k_ ≠ (u125001 : Value).ownBlock ∧ k_ ≠ gb124) u13 x13_4) ∧ Aside0 (Kd.R (Kd.int .i64) 2 w' w.heap.size (fun _ => True) u125001 x125001_6) ∧ Aside0 (w'.heap[gb124]? = some (.cells #[.bool bL6004, u125001] 35 (0, 0))) ∧ Aside0 (Below w.heap.size w w'))
 case atStart => exact ⟨(x10_4), (0), (([] : List Int)), (.slice none 0 0), (by first | rfl | (simp; done) | (simp [*]; done)), H', ⟨Nat.le_refl _⟩, ⟨Rh HO_10⟩, ⟨Kd.S_mono (Sh HO_13) (fun _ hk => ⟨(by simp [Value.ownBlock]), hk⟩)⟩, ⟨by first | exact Kd.R_nil _ _ _ _ _ | exact Kd.N_nil _ _ _ _ _ | exact Kd.V_nil _ _ _ _ _ | exact Kd.Q_nil _ _ _ _ _ | exact Kd.S_nil _ _ _ _ _⟩, ⟨Bh BK124⟩, ⟨wB⟩⟩
 case round => (
 clear H'
 try clear p118
 try clear q118
 try clear hx118
 try clear p122
 try clear q122
 try clear hx122
 try clear c1001
 try clear c1001b0
 try clear c1002
 try clear c1002b0
 try clear c1003
 try clear c1003b0
 try clear c1004
 try clear c1004b0
 try clear c1005
 try clear c1005b0
 try clear c1006
 try clear c2001
 try clear c2001b0
 try clear c2002
 try clear c2002b0
 try clear c2003
 try clear c2003b0
 try clear c2004
 try clear c2004b0
 try clear c2005
 try clear c2005b0
 try clear c2006
 try clear c3001
 try clear c3001b0
 try clear c3001b1
 try clear c3002
 try clear c4001
 try clear c4001b0
 try clear c5002
 try clear c5002b0
 try clear c5003
 try clear c5003b0
 try clear c5004
 try clear c5004b0
 try clear hcz6002_0 hcz6002_1 hcz6002_2 hcz6002_3 hfz6002_0 hfz6002_1 hfz6002_2 hfz6002_3
 try clear hcz6004_0 hcz6004_1 hcz6004_2 hcz6004_3 hfz6004_0 hfz6004_1 hfz6004_2 hfz6004_3
 try clear hx118_0
 try clear hx122_0
 try clear hx122_1
 try clear hx122_2
 try clear hx122_3
 try clear p118
 try clear p122
 try clear q118
 try clear q122
 obtain ⟨x10_6, x93_6, x125001_6, u125001, rfl, HA, HK6, HO_10, HO_13, HO_125001, BK124, HB⟩ := hrel
 have hl10_6 := (Kd.R_reads' HO_10.out).1
 rw [hl10_6] at HO_10
 (try simp only [hl10_6])
 (try simp only [hl10_6] at BK124)
 (try simp only [hl10_6] at HO_13)
 (try simp only [hl10_6] at HO_125001)
 cases gk with
 | zero => exact absurd HA.out (by simp [impl_Share.l3])
 | succ k6 => {
 have H := HA.out
 clear HA
 simp only [impl_Share.l3] at H
 by_cases c6005 : x93_6 < (x10_4.length : Int)
 rw [if_pos c6005] at H
 have c6005b0 : decide (x93_6 < (x10_4.length : Int)) = true := decide_eq_true c6005
 (try (have c6005bh := c6005b0; simp only [hl10_6] at c6005bh))
 clear c6005
 by_cases c6006 : 0 ≤ x93_6
 rw [if_pos c6006] at H
 have c6006b0 : decide (0 ≤ x93_6) = true := decide_eq_true c6006
 clear c6006
 by_cases c6007 : x93_6 < (x10_6.length : Int)
 rw [if_pos c6007] at H
 have c6007b0 : decide (x93_6 < (x10_6.length : Int)) = true := decide_eq_true c6007
 (try (have c6007bh := c6007b0; simp only [hl10_6] at c6007bh))
 clear c6007
 by_cases c6008 : bL6004 = true
 subst c6008
 have H1 : ((impl_CongLoss.f ((rd_T112 x10_6 x93_6).f0) ((rd_T112 x10_6 x93_6).f1) ((rd_T112 x10_6 x93_6).f2) ((rd_T112 x10_6 x93_6).f3) ((rd_T112 x10_6 x93_6).f1)).bind fun bt133 => ((some (x10_6.set (x93_6 : Int).toNat (⟨bt133.1, bt133.2.1, bt133.2.2.1, bt133.2.2.2.1⟩ : S112) : List (S112))).bind fun y138 => (if x125001_6.length < 17592186044416 then (impl_Share.l3 k6 a1 y138 x13_4 a3 x74_4 (x10_4.length : Int) (wrap64 (x93_6 + 1)) true (x125001_6 ++ [(rd_T112 y138 x93_6).f1])) else (none)))) = some (r1, r2) := by rw [if_pos rfl] at H; exact H
 clear H
 have H := H1
 clear H1
 replace H := Option.bind_eq_some_iff.mp H
 obtain ⟨⟨t133, t134, t135, t136, t137⟩, A60090, H⟩ := H
 replace H : ((some (x10_6.set (x93_6 : Int).toNat (⟨t133, t134, t135, t136⟩ : S112) : List (S112))).bind fun y138 => (if x125001_6.length < 17592186044416 then (impl_Share.l3 k6 a1 y138 x13_4 a3 x74_4 (x10_4.length : Int) (wrap64 (x93_6 + 1)) true (x125001_6 ++ [(rd_T112 y138 x93_6).f1])) else (none))) = some (r1, r2) := H
 have A6009 := Aside0.mk A60090
 clear A60090
 obtain ⟨y138, hy138⟩ : ∃ y_ : List (S112), y_ = (x10_6.set (x93_6 : Int).toNat (⟨t133, t134, t135, t136⟩ : S112)) := ⟨_, rfl⟩
 replace H : (if x125001_6.length < 17592186044416 then (impl_Share.l3 k6 a1 y138 x13_4 a3 x74_4 (x10_4.length : Int) (wrap64 (x93_6 + 1)) true (x125001_6 ++ [(rd_T112 y138 x93_6).f1])) else (none)) = some (r1, r2) := by first | (rw [hy138]; with_reducible exact H) | (have H2_ := (Option.bind_some _ _).symm.trans H; rw [hy138]; with_reducible exact H2_) | (have H2_ := (Option.bind_some _ _).symm.trans H; with_reducible exact H2_) | with_reducible exact H | (rw [hy138]; exact H) | exact H
 have Ny138 := Aside0.mk hy138
 clear hy138
 by_cases c6011 : x125001_6.length < 17592186044416
 rw [if_pos c6011] at H
 have LMc6011 := Aside0.mk c6011
 clear c6011
 obtain ⟨y140, hy140⟩ : ∃ y_ : List Int, y_ = (x125001_6 ++ [(rd_T112 y138 x93_6).f1]) := ⟨_, rfl⟩
 replace H : (impl_Share.l3 k6 a1 y138 x13_4 a3 x74_4 (x10_4.length : Int) (wrap64 (x93_6 + 1)) true y140) = some (r1, r2) := by first | (rw [hy140]; with_reducible exact H) | (have H2_ := (Option.bind_some _ _).symm.trans H; rw [hy140]; with_reducible exact H2_) | (have H2_ := (Option.bind_some _ _).symm.trans H; with_reducible exact H2_) | with_reducible exact H | (rw [hy140]; exact H) | exact H
 have Ny140 := Aside0.mk hy140
 clear hy140
 have H' := Aside0.mk H
 clear H
 have bq1_ : True := trivial
 rotate_left
 rw [if_neg c6011] at H
 exact absurd H (by simp)
 replace c6008 := Bool.eq_false_iff.mpr c6008
 subst c6008
 have H1 : ((impl_CongAck.f k6 ((rd_T112 x10_6 x93_6).f0) ((rd_T112 x10_6 x93_6).f1) ((rd_T112 x10_6 x93_6).f2) ((rd_T112 x10_6 x93_6).f3) ((rd_T112 x10_6 x93_6).f1)).bind fun bt143 => ((some (x10_6.set (x93_6 : Int).toNat (⟨bt143.1, bt143.2.1, bt143.2.2.1, bt143.2.2.2.1⟩ : S112) : List (S112))).bind fun y148 => (if x125001_6.length < 17592186044416 then (impl_Share.l3 k6 a1 y148 x13_4 a3 x74_4 (x10_4.length : Int) (wrap64 (x93_6 + 1)) false (x125001_6 ++ [(rd_T112 y148 x93_6).f1])) else (none)))) = some (r1, r2) := by rw [if_neg (show ¬ (false = true) by decide)] at H; exact H
 clear H
 have H := H1
 clear H1
 replace H := Option.bind_eq_some_iff.mp H
 obtain ⟨⟨t143, t144, t145, t146, t147⟩, A60120, H⟩ := H
 replace H : ((some (x10_6.set (x93_6 : Int).toNat (⟨t143, t144, t145, t146⟩ : S112) : List (S112))).bind fun y148 => (if x125001_6.length < 17592186044416 then (impl_Share.l3 k6 a1 y148 x13_4 a3 x74_4 (x10_4.length : Int) (wrap64 (x93_6 + 1)) false (x125001_6 ++ [(rd_T112 y148 x93_6).f1])) else (none))) = some (r1, r2) := H
 have A6012 := Aside0.mk A60120
 clear A60120
 obtain ⟨y148, hy148⟩ : ∃ y_ : List (S112), y_ = (x10_6.set (x93_6 : Int).toNat (⟨t143, t144, t145, t146⟩ : S112)) := ⟨_, rfl⟩
 replace H : (if x125001_6.length < 17592186044416 then (impl_Share.l3 k6 a1 y148 x13_4 a3 x74_4 (x10_4.length : Int) (wrap64 (x93_6 + 1)) false (x125001_6 ++ [(rd_T112 y148 x93_6).f1])) else (none)) = some (r1, r2) := by first | (rw [hy148]; with_reducible exact H) | (have H2_ := (Option.bind_some _ _).symm.trans H; rw [hy148]; with_reducible exact H2_) | (have H2_ := (Option.bind_some _ _).symm.trans H; with_reducible exact H2_) | with_reducible exact H | (rw [hy148]; exact H) | exact H
 have Ny148 := Aside0.mk hy148
 clear hy148
 by_cases c6014 : x125001_6.length < 17592186044416
 rw [if_pos c6014] at H
 have LMc6014 := Aside0.mk c6014
 clear c6014
 obtain ⟨y150, hy150⟩ : ∃ y_ : List Int, y_ = (x125001_6 ++ [(rd_T112 y148 x93_6).f1]) := ⟨_, rfl⟩
 replace H : (impl_Share.l3 k6 a1 y148 x13_4 a3 x74_4 (x10_4.length : Int) (wrap64 (x93_6 + 1)) false y150) = some (r1, r2) := by first | (rw [hy150]; with_reducible exact H) | (have H2_ := (Option.bind_some _ _).symm.trans H; rw [hy150]; with_reducible exact H2_) | (have H2_ := (Option.bind_some _ _).symm.trans H; with_reducible exact H2_) | with_reducible exact H | (rw [hy150]; exact H) | exact H
 have Ny150 := Aside0.mk hy150
 clear hy150
 have H' := Aside0.mk H
 clear H
 rotate_left
 rw [if_neg c6014] at H
 exact absurd H (by simp)
 rw [if_neg c6007] at H
 exact absurd H (by simp)
 rw [if_neg c6006] at H
 exact absurd H (by simp)
 rw [if_neg c6005] at H
 have c6005b0 : decide (x93_6 < (x10_4.length : Int)) = false := decide_eq_false c6005
 (try (have c6005bh := c6005b0; simp only [hl10_6] at c6005bh))
 clear c6005
 replace H := Option.bind_eq_some_iff.mp H
 obtain ⟨t125, A60150, H⟩ := H
 replace H : (if x13_4.length < 4398046511104 then (impl_Share.l1 k6 a1 x10_6 (x13_4 ++ [(⟨bL6004, t125⟩ : S35)]) a3 (wrap64 (x74_4 + 1))) else (none)) = some (r1, r2) := H
 have A6015 := Aside0.mk A60150
 clear A60150
 by_cases c6016 : x13_4.length < 4398046511104
 rw [if_pos c6016] at H
 have LMc6016 := Aside0.mk c6016
 clear c6016
 obtain ⟨y128, hy128⟩ : ∃ y_ : List (S35), y_ = (x13_4 ++ [(⟨bL6004, t125⟩ : S35)]) := ⟨_, rfl⟩
 replace H : (impl_Share.l1 k6 a1 x10_6 y128 a3 (wrap64 (x74_4 + 1))) = some (r1, r2) := by first | (rw [hy128]; with_reducible exact H) | (have H2_ := (Option.bind_some _ _).symm.trans H; rw [hy128]; with_reducible exact H2_) | (have H2_ := (Option.bind_some _ _).symm.trans H; with_reducible exact H2_) | with_reducible exact H | (rw [hy128]; exact H) | exact H
 have Ny128 := Aside0.mk hy128
 clear hy128
 have H' := Aside0.mk H
 clear H
 rotate_left
 rw [if_neg c6016] at H
 exact absurd H (by simp)
 iterate 2 (
 focus (
 have p131 : 0 ≤ (x93_6 : Int) := of_decide_eq_true (by first | (with_reducible assumption) | assumption)
 have q131 : x93_6 < (x10_6.length : Int) := of_decide_eq_true (by first | (with_reducible assumption) | assumption)
 obtain ⟨ad131, e131, hx131_0, hx131_1, hx131_2, hx131_3⟩ := at_T112 (Kd.R_reads' HO_10.out).2.2 x93_6 p131 q131
 cases e131
 replace p131 := eq_true p131
 replace q131 := eq_true q131
 )
 rotate_left
 )
 rotate_right 2
 {
 try go_wp2_with (first | ((with_reducible refine gate_dst (N := 19) rfl ?_); (try (refine gate_guard (by rfl) ?_; dsimp only)); refine box_event ?hg (N := 19) ?hd (cs := #[.int .i64 0, .int .i64 0, .int .i64 0, .int .i64 0]) (t := 112) ?hr ?_; (case hd => rfl); (case hg => rfl); (case hr => first | (go_simp; done) | (go_simp; rfl)); intro gb132 hg w7001 hbox hb; have n0_ := Aside0.mk (Kd.R_below (Kd.R_elderB (Rh HO_10) gb132 (Nat.le_of_eq hg.symm)) hb); have n1_ := Aside0.mk (Kd.S_below (Sh HO_13) hb); have n2_ := Aside0.mk (Kd.R_below (Rh HO_125001) hb); have n3_ := Aside0.mk (blk_below (Bh BK124) hb); have n4_ := Aside0.mk (below_step wB hb); have n5_ := Aside0.mk (hbox); have n6_ := Aside0.mk ((by rw [hg]; exact (below_size wB) : w.heap.size ≤ gb132)); have n7_ := Aside0.mk ((by rw [hg]; exact (below_size wB) : w.heap.size ≤ gb132)); have n8_ := Aside0.mk ((by rw [hg]; exact Nat.ne_of_lt (blk_lt (Bh BK124)) : gb124 ≠ gb132)); have n9_ := Aside0.mk ((by rw [hg]; exact Nat.ne_of_gt (blk_lt (Bh BK124)) : gb132 ≠ gb124)); clear HO_10; clear HO_13; clear HO_125001; clear BK124; clear HB; have HO_10 := n0_; have HO_13 := n1_; have HO_125001 := n2_; have BK124 := n3_; have HB := n4_; have BK132 := n5_; have GW132 := n6_; have GE132 := n7_; have NB124_132 := n8_; have NB132_124 := n9_; clear n0_ n1_ n2_ n3_ n4_ n5_ n6_ n7_ n8_ n9_; clear hb hbox hg; have hnb7002 := NB132_124.out; have hnc7002 := NB124_132.out; obtain ⟨⟨hcz7003_0, hcz7003_1, hcz7003_2, hcz7003_3⟩, hfz7003_0, hfz7003_1, hfz7003_2, hfz7003_3⟩ := cells4 BK132.out) | ((with_reducible refine gate_store (t := 112) (p := 19) rfl ?_); (try (rw [drewN_self w7001]; generalize hq_ : World.drewN w7001 _ = w7001; have n0_ := Aside0.mk (Kd.R_at hq_ HO_10.out); have n1_ := Aside0.mk (Kd.S_at hq_ HO_13.out); have n2_ := Aside0.mk (Kd.R_at hq_ HO_125001.out); have n3_ := Aside0.mk (blk_at hq_ BK124.out); have n4_ := Aside0.mk (blk_at hq_ BK132.out); have n5_ := Aside0.mk (below_at hq_ HB.out); clear hq_ HO_10 HO_13 HO_125001 BK124 BK132 HB; have HO_10 := n0_; have HO_13 := n1_; have HO_125001 := n2_; have BK124 := n3_; have BK132 := n4_; have HB := n5_; clear n0_ n1_ n2_ n3_ n4_ n5_; (try (obtain ⟨⟨hcyBK124_0, hcyBK124_1⟩, hfyBK124_0, hfyBK124_1⟩ := cells2 BK124.out)); (try (obtain ⟨⟨hcyBK132_0, hcyBK132_1, hcyBK132_2, hcyBK132_3⟩, hfyBK132_0, hfyBK132_1, hfyBK132_2, hfyBK132_3⟩ := cells4 BK132.out)))); refine store_event (t := 112) (p := 19) (v := ?_) (w1 := ((((w7001.setCell ⟨gb132, 0, none⟩ (.int .i64 ((rd_T112 x10_6 x93_6).f0))).setCell ⟨gb132, 1, none⟩ (.int .i64 ((rd_T112 x10_6 x93_6).f1))).setCell ⟨gb132, 2, none⟩ (.int .i64 ((rd_T112 x10_6 x93_6).f2))).setCell ⟨gb132, 3, none⟩ (.int .i64 ((rd_T112 x10_6 x93_6).f3)))) ?hg ?ho ?hn ?hr ?_; (case ho => rfl); (case hg => rfl); (case hn => rfl); (case hr => first | (go_simp; done) | (go_simp; rfl)); intro w7004 hw; have n0_ : Aside0 (Kd.R k112 112 w7004 w.heap.size (fun k_ => k_ ≠ gb132) (.slice (some ad131) x10_6.length co5001) x10_6) := ⟨(by rw [hw]; exact (by (with_reducible repeat (first | apply Kd.R_alloc | apply Kd.R_drewN | apply Kd.R_drew)); exact Kd.R_mono (Kd.R_far (p := ⟨gb132, 3, none⟩) (Kd.R_far (p := ⟨gb132, 2, none⟩) (Kd.R_far (p := ⟨gb132, 1, none⟩) (Kd.R_far (p := ⟨gb132, 0, none⟩) (Kd.R_mono HO_10.out (fun k_ hk => (⟨hk, hk.2⟩ : _ ∧ k_ ≠ gb132))) (fun _ hk => hk.2) (.int .i64 ((rd_T112 x10_6 x93_6).f0))) (fun _ hk => hk.2) (.int .i64 ((rd_T112 x10_6 x93_6).f1))) (fun _ hk => hk.2) (.int .i64 ((rd_T112 x10_6 x93_6).f2))) (fun _ hk => hk.2) (.int .i64 ((rd_T112 x10_6 x93_6).f3))) (fun _ hk => hk.1.2)))⟩; have n1_ : Aside0 (Kd.S k35 35 w7004 w.heap.size (fun k_ => some k_ ≠ (u125001 : Value).ownBlock ∧ k_ ≠ gb124) u13 x13_4) := ⟨(by rw [hw]; exact (by (with_reducible repeat (first | apply Kd.S_alloc | apply Kd.S_drewN | apply Kd.S_drew)); exact Kd.S_mono (Kd.S_far (p := ⟨gb132, 3, none⟩) (Kd.S_far (p := ⟨gb132, 2, none⟩) (Kd.S_far (p := ⟨gb132, 1, none⟩) (Kd.S_far (p := ⟨gb132, 0, none⟩) (Kd.S_types HO_13.out BK132.out (by decide)) (fun _ hk => hk.2) (.int .i64 ((rd_T112 x10_6 x93_6).f0))) (fun _ hk => hk.2) (.int .i64 ((rd_T112 x10_6 x93_6).f1))) (fun _ hk => hk.2) (.int .i64 ((rd_T112 x10_6 x93_6).f2))) (fun _ hk => hk.2) (.int .i64 ((rd_T112 x10_6 x93_6).f3))) (fun _ hk => ⟨hk.1.1, hk.1.2⟩)))⟩; have n2_ : Aside0 (Kd.R (Kd.int .i64) 2 w7004 w.heap.size (fun _ => True) u125001 x125001_6) := ⟨(by rw [hw]; exact (by (with_reducible repeat (first | apply Kd.R_alloc | apply Kd.R_drewN | apply Kd.R_drew)); exact Kd.R_mono (Kd.R_far (p := ⟨gb132, 3, none⟩) (Kd.R_far (p := ⟨gb132, 2, none⟩) (Kd.R_far (p := ⟨gb132, 1, none⟩) (Kd.R_far (p := ⟨gb132, 0, none⟩) (Kd.R_types HO_125001.out BK132.out (by decide)) (fun _ hk => hk.2) (.int .i64 ((rd_T112 x10_6 x93_6).f0))) (fun _ hk => hk.2) (.int .i64 ((rd_T112 x10_6 x93_6).f1))) (fun _ hk => hk.2) (.int .i64 ((rd_T112 x10_6 x93_6).f2))) (fun _ hk => hk.2) (.int .i64 ((rd_T112 x10_6 x93_6).f3))) (fun _ hk => trivial)))⟩; have n3_ : Aside0 (w7004.heap[gb124]? = some (.cells #[.bool true, u125001] 35 (0, 0))) := ⟨(by rw [hw]; exact (by (with_reducible repeat (first | refine blk_drewN ?_ _ | refine blk_drew ?_ | refine blk_alloc ?_ _)); refine blk_far ?_ NB124_132.out _; (with_reducible repeat (first | refine blk_drewN ?_ _ | refine blk_drew ?_ | refine blk_alloc ?_ _)); refine blk_far ?_ NB124_132.out _; (with_reducible repeat (first | refine blk_drewN ?_ _ | refine blk_drew ?_ | refine blk_alloc ?_ _)); refine blk_far ?_ NB124_132.out _; (with_reducible repeat (first | refine blk_drewN ?_ _ | refine blk_drew ?_ | refine blk_alloc ?_ _)); refine blk_far ?_ NB124_132.out _; (with_reducible repeat (first | refine blk_drewN ?_ _ | refine blk_drew ?_ | refine blk_alloc ?_ _)); exact BK124.out))⟩; have n4_ : Aside0 (w7004.heap[gb132]? = some (.cells #[.int .i64 ((rd_T112 x10_6 x93_6).f0), .int .i64 ((rd_T112 x10_6 x93_6).f1), .int .i64 ((rd_T112 x10_6 x93_6).f2), .int .i64 ((rd_T112 x10_6 x93_6).f3)] 112 (0, 0))) := ⟨(by rw [hw]; exact (by (with_reducible repeat (first | refine blk_drewN ?_ _ | refine blk_drew ?_ | refine blk_alloc ?_ _)); refine blk_put (cs := #[.int .i64 ((rd_T112 x10_6 x93_6).f0), .int .i64 ((rd_T112 x10_6 x93_6).f1), .int .i64 ((rd_T112 x10_6 x93_6).f2), .int .i64 0]) ?_ 3 _ rfl; (with_reducible repeat (first | refine blk_drewN ?_ _ | refine blk_drew ?_ | refine blk_alloc ?_ _)); refine blk_put (cs := #[.int .i64 ((rd_T112 x10_6 x93_6).f0), .int .i64 ((rd_T112 x10_6 x93_6).f1), .int .i64 0, .int .i64 0]) ?_ 2 _ rfl; (with_reducible repeat (first | refine blk_drewN ?_ _ | refine blk_drew ?_ | refine blk_alloc ?_ _)); refine blk_put (cs := #[.int .i64 ((rd_T112 x10_6 x93_6).f0), .int .i64 0, .int .i64 0, .int .i64 0]) ?_ 1 _ rfl; (with_reducible repeat (first | refine blk_drewN ?_ _ | refine blk_drew ?_ | refine blk_alloc ?_ _)); refine blk_put (cs := #[.int .i64 0, .int .i64 0, .int .i64 0, .int .i64 0]) ?_ 0 _ rfl; (with_reducible repeat (first | refine blk_drewN ?_ _ | refine blk_drew ?_ | refine blk_alloc ?_ _)); exact BK132.out))⟩; have n5_ : Aside0 (Below w.heap.size w w7004) := ⟨(by rw [hw]; exact wB)⟩; clear hw; clear HO_10; clear HO_13; clear HO_125001; clear BK124; clear BK132; clear HB; have HO_10 := n0_; have HO_13 := n1_; have HO_125001 := n2_; have BK124 := n3_; have BK132 := n4_; have HB := n5_; clear n0_ n1_ n2_ n3_ n4_ n5_; obtain ⟨⟨hcz7005_0, hcz7005_1⟩, hfz7005_0, hfz7005_1⟩ := cells2 BK124.out; obtain ⟨⟨hcz7006_0, hcz7006_1, hcz7006_2, hcz7006_3⟩, hfz7006_0, hfz7006_1, hfz7006_2, hfz7006_3⟩ := cells4 BK132.out) | ((with_reducible refine gate_callee (f := 66) rfl ?_); refine goesL_ (some 106) rfl rfl Try.func66 (by kernel_rfl) rfl #[.agg #[.int .i64 ((rd_T112 x10_6 x93_6).f0), .int .i64 ((rd_T112 x10_6 x93_6).f1), .int .i64 ((rd_T112 x10_6 x93_6).f2), .int .i64 ((rd_T112 x10_6 x93_6).f3)], .int .i64 ((rd_T112 x10_6 x93_6).f1)] rfl wT ?_; (with_reducible refine (impl_CongLoss.calls ((rd_T112 x10_6 x93_6).f0) ((rd_T112 x10_6 x93_6).f1) ((rd_T112 x10_6 x93_6).f2) ((rd_T112 x10_6 x93_6).f3) ((rd_T112 x10_6 x93_6).f1) t133 t134 t135 t136 t137 _ A6009.out).mono ?_); rintro e w7007 ⟨rfl, hb⟩; refine ⟨_, rfl, ?_⟩; have n0_ := Aside0.mk (Kd.R_below (Rh HO_10) hb); have n1_ := Aside0.mk (Kd.S_below (Sh HO_13) hb); have n2_ := Aside0.mk (Kd.R_below (Rh HO_125001) hb); have n3_ := Aside0.mk (blk_below (Bh BK124) hb); have n4_ := Aside0.mk (blk_below (Bh BK132) hb); have n5_ := Aside0.mk (below_step wB hb); clear HO_10; clear HO_13; clear HO_125001; clear BK124; clear BK132; clear HB; have HO_10 := n0_; have HO_13 := n1_; have HO_125001 := n2_; have BK124 := n3_; have BK132 := n4_; have HB := n5_; clear n0_ n1_ n2_ n3_ n4_ n5_; (try clear hb); (try clear hb2); (try clear hk); (try clear hi); have p6010 : 0 ≤ (x93_6 : Int) := of_decide_eq_true (by first | (with_reducible assumption) | assumption); have q6010 : (x93_6 : Int) < ((x10_6.length : Int) : Int) := of_decide_eq_true (by first | (with_reducible assumption) | assumption); obtain ⟨go6010, co6010, eo6010, gb6010, gl6010, cl6010, HG6010⟩ := Kd.R_form HO_10.out (by omega); (first | cases eo6010 | (injection eo6010 with ea_ en_ ec_; (first | subst ea_ | (injection ea_ with ea_; subst ea_)); subst ec_; clear en_)); have GB6010 := Aside0.mk gb6010; have GG6010 := Aside0.mk HG6010; clear gb6010 gl6010 HG6010; (first | simp only [add_plain] at hx131_0 | skip); (first | simp only [add_plain] at hx131_1 | skip); (first | simp only [add_plain] at hx131_2 | skip); (first | simp only [add_plain] at hx131_3 | skip); obtain ⟨ce6010, hcl6010, hM6010, hcc6010, hfr6010⟩ := Kd.R_elem HO_10.out z112 (x93_6 : Int) p6010 q6010; obtain rfl := k112_openM hM6010; have hx6010_0 : w7007.cell? ⟨go6010, (x93_6 : Int).toNat * 4, none⟩ = some (.int .i64 ((rd_T112 x10_6 x93_6).f0)) := hcc6010 0 _ rfl; have hx6010_1 : w7007.cell? ⟨go6010, (x93_6 : Int).toNat * 4 + 1, none⟩ = some (.int .i64 ((rd_T112 x10_6 x93_6).f1)) := hcc6010 1 _ rfl; have hx6010_2 : w7007.cell? ⟨go6010, (x93_6 : Int).toNat * 4 + 2, none⟩ = some (.int .i64 ((rd_T112 x10_6 x93_6).f2)) := hcc6010 2 _ rfl; have hx6010_3 : w7007.cell? ⟨go6010, (x93_6 : Int).toNat * 4 + 3, none⟩ = some (.int .i64 ((rd_T112 x10_6 x93_6).f3)) := hcc6010 3 _ rfl; have hf6010_0 : w7007.frozen? ⟨go6010, (x93_6 : Int).toNat * 4, none⟩ = false := hfr6010 0; have hf6010_1 : w7007.frozen? ⟨go6010, (x93_6 : Int).toNat * 4 + 1, none⟩ = false := hfr6010 1; have hf6010_2 : w7007.frozen? ⟨go6010, (x93_6 : Int).toNat * 4 + 2, none⟩ = false := hfr6010 2; have hf6010_3 : w7007.frozen? ⟨go6010, (x93_6 : Int).toNat * 4 + 3, none⟩ = false := hfr6010 3; clear hcl6010 hcc6010 hfr6010 hM6010; replace p6010 := eq_true p6010; replace q6010 := eq_true q6010; have HX7008 := Aside0.mk (show Kd.R k112 112 w7007 w.heap.size (fun k_ => k_ ≠ gb132) (.slice (some ⟨go6010, 0, none⟩) x10_6.length co5001) x10_6 from (Rh HO_10)); obtain ⟨ce7008, hcl7008, hM7008, hcc7008, hfr7008⟩ := Kd.R_elem HX7008.out z112 (x93_6 : Int) (of_decide_eq_true (by first | (with_reducible assumption) | assumption)) (by have h_ : (x93_6 : Int) < ((x10_6.length : Int) : Int) := of_decide_eq_true (by first | (with_reducible assumption) | assumption); first | exact h_ | (have e_ := (Kd.R_reads' HO_10.out).1; omega) | simpa using h_); obtain rfl := k112_openM hM7008; have HP7008 := Kd.R_seg HX7008.out (x93_6 : Int) (of_decide_eq_true (by first | (with_reducible assumption) | assumption)) (by have h_ : (x93_6 : Int) < ((x10_6.length : Int) : Int) := of_decide_eq_true (by first | (with_reducible assumption) | assumption); first | exact h_ | (have e_ := (Kd.R_reads' HO_10.out).1; omega) | simpa using h_) (seg := [.int .i64 t133, .int .i64 t134, .int .i64 t135, .int .i64 t136]) (j := 0) hcl7008 hcc7008 (show 4 ≤ 4 from by decide) (x' := (⟨t133, t134, t135, t136⟩ : S112)) (k112_mkM _ _ _ (⟨t133, t134, t135, t136⟩ : S112) ) (fun _ hk => hk); have hx7008_0 := hcc7008 0 _ rfl; (try simp only [show (k112).sz = 4 from rfl, Nat.mul_one, Nat.add_zero] at hx7008_0); have hf7008_0 := hfr7008 0; (try simp only [show (k112).sz = 4 from rfl, Nat.mul_one, Nat.add_zero] at hf7008_0); have hx7008_1 := hcc7008 1 _ rfl; (try simp only [show (k112).sz = 4 from rfl, Nat.mul_one, Nat.add_zero] at hx7008_1); have hf7008_1 := hfr7008 1; (try simp only [show (k112).sz = 4 from rfl, Nat.mul_one, Nat.add_zero] at hf7008_1); have hx7008_2 := hcc7008 2 _ rfl; (try simp only [show (k112).sz = 4 from rfl, Nat.mul_one, Nat.add_zero] at hx7008_2); have hf7008_2 := hfr7008 2; (try simp only [show (k112).sz = 4 from rfl, Nat.mul_one, Nat.add_zero] at hf7008_2); have hx7008_3 := hcc7008 3 _ rfl; (try simp only [show (k112).sz = 4 from rfl, Nat.mul_one, Nat.add_zero] at hx7008_3); have hf7008_3 := hfr7008 3; (try simp only [show (k112).sz = 4 from rfl, Nat.mul_one, Nat.add_zero] at hf7008_3); clear hcl7008 hcc7008 hfr7008 hM7008) | ((with_reducible refine gate_store (t := 112) (p := 109) rfl ?_); (try (rw [drewN_self w7007]; generalize hq_ : World.drewN w7007 _ = w7007; have n0_ := Aside0.mk (Kd.R_at hq_ HO_10.out); have n1_ := Aside0.mk (Kd.S_at hq_ HO_13.out); have n2_ := Aside0.mk (Kd.R_at hq_ HO_125001.out); have n3_ := Aside0.mk (blk_at hq_ BK124.out); have n4_ := Aside0.mk (blk_at hq_ BK132.out); have n5_ := Aside0.mk (below_at hq_ HB.out); clear hq_ HO_10 HO_13 HO_125001 BK124 BK132 HB; have HO_10 := n0_; have HO_13 := n1_; have HO_125001 := n2_; have BK124 := n3_; have BK132 := n4_; have HB := n5_; clear n0_ n1_ n2_ n3_ n4_ n5_; (try (obtain ⟨⟨hcyBK124_0, hcyBK124_1⟩, hfyBK124_0, hfyBK124_1⟩ := cells2 BK124.out)); (try (obtain ⟨⟨hcyBK132_0, hcyBK132_1, hcyBK132_2, hcyBK132_3⟩, hfyBK132_0, hfyBK132_1, hfyBK132_2, hfyBK132_3⟩ := cells4 BK132.out)); (try (have HX7008 := Aside0.mk (show Kd.R k112 112 w7007 w.heap.size (fun k_ => k_ ≠ gb132) (.slice (some ⟨go6010, 0, none⟩) x10_6.length co5001) x10_6 from (Rh HO_10)))); (try (obtain ⟨ce7008, hcl7008, hM7008, hcc7008, hfr7008⟩ := Kd.R_elem HX7008.out z112 (x93_6 : Int) (of_decide_eq_true (by first | (with_reducible assumption) | assumption)) (by have h_ : (x93_6 : Int) < ((x10_6.length : Int) : Int) := of_decide_eq_true (by first | (with_reducible assumption) | assumption); first | exact h_ | (have e_ := (Kd.R_reads' HO_10.out).1; omega) | simpa using h_))); (try (obtain rfl := k112_openM hM7008)); (try (have HP7008 := Kd.R_seg HX7008.out (x93_6 : Int) (of_decide_eq_true (by first | (with_reducible assumption) | assumption)) (by have h_ : (x93_6 : Int) < ((x10_6.length : Int) : Int) := of_decide_eq_true (by first | (with_reducible assumption) | assumption); first | exact h_ | (have e_ := (Kd.R_reads' HO_10.out).1; omega) | simpa using h_) (seg := [.int .i64 t133, .int .i64 t134, .int .i64 t135, .int .i64 t136]) (j := 0) hcl7008 hcc7008 (show 4 ≤ 4 from by decide) (x' := (⟨t133, t134, t135, t136⟩ : S112)) (k112_mkM _ _ _ (⟨t133, t134, t135, t136⟩ : S112) ) (fun _ hk => hk))); (try (have hx7008_0 := hcc7008 0 _ rfl)); (try (try simp only [show (k112).sz = 4 from rfl, Nat.mul_one, Nat.add_zero] at hx7008_0)); (try (have hf7008_0 := hfr7008 0)); (try (try simp only [show (k112).sz = 4 from rfl, Nat.mul_one, Nat.add_zero] at hf7008_0)); (try (have hx7008_1 := hcc7008 1 _ rfl)); (try (try simp only [show (k112).sz = 4 from rfl, Nat.mul_one, Nat.add_zero] at hx7008_1)); (try (have hf7008_1 := hfr7008 1)); (try (try simp only [show (k112).sz = 4 from rfl, Nat.mul_one, Nat.add_zero] at hf7008_1)); (try (have hx7008_2 := hcc7008 2 _ rfl)); (try (try simp only [show (k112).sz = 4 from rfl, Nat.mul_one, Nat.add_zero] at hx7008_2)); (try (have hf7008_2 := hfr7008 2)); (try (try simp only [show (k112).sz = 4 from rfl, Nat.mul_one, Nat.add_zero] at hf7008_2)); (try (have hx7008_3 := hcc7008 3 _ rfl)); (try (try simp only [show (k112).sz = 4 from rfl, Nat.mul_one, Nat.add_zero] at hx7008_3)); (try (have hf7008_3 := hfr7008 3)); (try (try simp only [show (k112).sz = 4 from rfl, Nat.mul_one, Nat.add_zero] at hf7008_3)); (try (clear hcl7008 hcc7008 hfr7008 hM7008)))); refine store_event (t := 112) (p := 109) (v := ?_) (w1 := ((((w7007.setCell ⟨go6010, (x93_6 : Int).toNat * 4, none⟩ (.int .i64 t133)).setCell ⟨go6010, (x93_6 : Int).toNat * 4 + 1, none⟩ (.int .i64 t134)).setCell ⟨go6010, (x93_6 : Int).toNat * 4 + 2, none⟩ (.int .i64 t135)).setCell ⟨go6010, (x93_6 : Int).toNat * 4 + 3, none⟩ (.int .i64 t136))) ?hg ?ho ?hn ?hr ?_; (case ho => rfl); (case hg => rfl); (case hn => rfl); (case hr => first | (go_simp; done) | (go_simp; rfl)); intro w7009 hw; have hg : w7007.grownBy w7009 (some go6010) := (by rw [hw]; exact HP7008.2); have hp_ : Kd.R k112 112 w7009 w.heap.size (fun k_ => k_ ≠ gb132) (.slice (some ⟨go6010, 0, none⟩) x10_6.length co5001) y138 := (by rw [hw, Ny138.out]; exact HP7008.1); clear HP7008; have n0_ := Aside0.mk (hp_); have n1_ := Aside0.mk (Kd.S_over' (v := (.slice (some ⟨go6010, 0, none⟩) x10_6.length co5001)) (Sh HO_13) (Kd.R_typed HO_10.out) (by decide) hg); have n2_ := Aside0.mk (Kd.R_over' (v := (.slice (some ⟨go6010, 0, none⟩) x10_6.length co5001)) (Rh HO_125001) (Kd.R_typed HO_10.out) (by decide) hg); have n3_ := Aside0.mk (blk_grown (Bh BK124) hg (Kd.R_ne HO_10.out BK124.out (by decide))); have n4_ := Aside0.mk (blk_grown (Bh BK132) hg (Kd.R_away HO_10.out (fun _ hk => hk))); have n5_ := Aside0.mk ((by rw [hw]; exact below_set (below_set (below_set (below_set (HB.out) GB6010.out) GB6010.out) GB6010.out) GB6010.out : Below w.heap.size w w7009)); clear HO_10; clear HO_13; clear HO_125001; clear BK124; clear BK132; clear HB; have HO_10 := n0_; have HO_13 := n1_; have HO_125001 := n2_; have BK124 := n3_; have BK132 := n4_; have HB := n5_; clear n0_ n1_ n2_ n3_ n4_ n5_; clear hg hw hp_))
 have n0_ := Aside0.mk (Kd.R_drew HO_10.out)
 have n1_ := Aside0.mk (Kd.S_drew HO_13.out)
 have n2_ := Aside0.mk (Kd.R_drew HO_125001.out)
 have n3_ := Aside0.mk (blk_drew BK124.out)
 have n4_ := Aside0.mk (blk_drew BK132.out)
 have n5_ := Aside0.mk (below_drew1 HB.out)
 clear HO_10
 clear HO_13
 clear HO_125001
 clear BK124
 clear BK132
 clear HB
 have HO_10 := n0_
 have HO_13 := n1_
 have HO_125001 := n2_
 have BK124 := n3_
 have BK132 := n4_
 have HB := n5_
 clear n0_ n1_ n2_ n3_ n4_ n5_
 have p139 : 0 ≤ (x93_6 : Int) := of_decide_eq_true (by first | (with_reducible assumption) | assumption)
 have q139 : x93_6 < (y138.length : Int) := (by have h_ : (x93_6 : Int) < ((x10_6.length : Int) : Int) := of_decide_eq_true (by first | (with_reducible assumption) | assumption); first | (have e_ := (Kd.R_reads' HO_10.out).1; omega) | simpa only [Ny138.out, List.length_set] using h_)
 have ql139 : ((x93_6 : Int) < ((x10_6.length : Int) : Int)) = True := eq_true (of_decide_eq_true (by first | (with_reducible assumption) | assumption))
 obtain ⟨ad139, e139, hx139_0, hx139_1, hx139_2, hx139_3⟩ := at_T112 (Kd.R_reads' HO_10.out).2.2 x93_6 p139 q139
 obtain rfl : (⟨go6010, 0, none⟩ : Addr) = ad139 := (by injection e139)
 (first | simp only [add_plain] at hx139_0 | simp only [add_at] at hx139_0 | simp only [Addr.add, Nat.zero_add] at hx139_0 | skip)
 (first | simp only [add_plain] at hx139_1 | simp only [add_at] at hx139_1 | simp only [Addr.add, Nat.zero_add] at hx139_1 | skip)
 (first | simp only [add_plain] at hx139_2 | simp only [add_at] at hx139_2 | simp only [Addr.add, Nat.zero_add] at hx139_2 | skip)
 (first | simp only [add_plain] at hx139_3 | simp only [add_at] at hx139_3 | simp only [Addr.add, Nat.zero_add] at hx139_3 | skip)
 replace p139 := eq_true p139
 replace q139 := eq_true q139
 refine start_ (n := 11) (S := fun w' => w'.cell? ⟨gb124, 0, none⟩ = some (.bool true) ∧ w'.cell? ⟨gb124, 1, none⟩ = some (u125001) ∧ w'.cell? ⟨go6010, (x93_6).toNat * 4, none⟩ = some (.int .i64 ((rd_T112 y138 x93_6).f0)) ∧ w'.cell? ⟨go6010, (x93_6).toNat * 4 + 1, none⟩ = some (.int .i64 ((rd_T112 y138 x93_6).f1)) ∧ w'.cell? ⟨go6010, (x93_6).toNat * 4 + 2, none⟩ = some (.int .i64 ((rd_T112 y138 x93_6).f2)) ∧ w'.cell? ⟨go6010, (x93_6).toNat * 4 + 3, none⟩ = some (.int .i64 ((rd_T112 y138 x93_6).f3))) (ds := [8, 10]) #[false, false, false, false, false, false, false, false, false, false, false] (by kernel_rfl) rfl rfl ⟨(blk_cell BK124.out 0).trans rfl, (blk_cell BK124.out 1).trans rfl, hx139_0, hx139_1, hx139_2, hx139_3⟩ (fun hHeld => ?_); refine with_tabW impl_Share.tab29 impl_Share.bits29 (fun HT_ HW_ => ?_)
 generalize w7009.drew = w7010 at HO_10 HO_13 HO_125001 BK124 BK132 HB hx139_0 hx139_1 hx139_2 hx139_3 hHeld ⊢
 refine pure_ (i := 0) (N := some 120) (v := ?_) (a' := ?_) #[true, false, false, false, false, false, false, false, false, false, false] rfl rfl (any_of HT_.out (by kernel_rfl)) (fun _ _ _ h => h) (Or.inl ⟨by rfl, ?_⟩) ?_ ?_
 rotate_left
 {
 intro w'
 go_simp
 with_reducible rfl
 }
 rotate_left
 {
 simp only [Act.put, List.setIfInBounds_toArray, List.set_cons_zero, List.set_cons_succ, i64_w, i32_w]
 rfl
 }
 refine pure_ (i := 2) (N := some 122) (v := ?_) (a' := ?_) #[true, false, true, false, false, false, false, false, false, false, false] rfl rfl (any_of HT_.out (by kernel_rfl)) (fun _ _ _ h => h) (Or.inl ⟨by rfl, ?_⟩) ?_ ?_
 rotate_left
 {
 intro w'
 go_simp
 with_reducible rfl
 }
 rotate_left
 {
 simp only [Act.put, List.setIfInBounds_toArray, List.set_cons_zero, List.set_cons_succ, i64_w, i32_w]
 rfl
 }
 refine pure_ (i := 3) (N := some 123) (v := ?_) (a' := ?_) #[true, false, true, true, false, false, false, false, false, false, false] rfl rfl (any_of HT_.out (by kernel_rfl)) (fun _ _ _ h => h) (Or.inl ⟨by rfl, ?_⟩) ?_ ?_
 rotate_left
 {
 intro w'
 go_simp
 with_reducible rfl
 }
 rotate_left
 {
 simp only [Act.put, List.setIfInBounds_toArray, List.set_cons_zero, List.set_cons_succ, i64_w, i32_w]
 rfl
 }
 refine pure_ (i := 4) (N := some 124) (v := ?_) (a' := ?_) #[true, false, true, true, true, false, false, false, false, false, false] rfl rfl (any_of HT_.out (by kernel_rfl)) (fun _ _ _ h => h) (Or.inl ⟨by rfl, ?_⟩) ?_ ?_
 rotate_left
 {
 intro w'
 go_simp
 with_reducible rfl
 }
 rotate_left
 {
 simp only [Act.put, List.setIfInBounds_toArray, List.set_cons_zero, List.set_cons_succ, i64_w, i32_w]
 rfl
 }
 refine pure_ (i := 5) (N := some 125) (v := ?_) (a' := ?_) #[true, false, true, true, true, true, false, false, false, false, false] rfl rfl (any_of HT_.out (by kernel_rfl)) (fun _ _ _ h => h) (Or.inl ⟨by rfl, ?_⟩) ?_ ?_
 rotate_left
 {
 intro w'
 go_simp
 with_reducible rfl
 }
 rotate_left
 {
 simp only [Act.put, List.setIfInBounds_toArray, List.set_cons_zero, List.set_cons_succ, i64_w, i32_w]
 rfl
 }
 refine take_ (i := 1) (N := some 121) (v := ?_) (a' := ?_) #[true, true, true, true, true, true, false, false, false, false, false] rfl rfl (take_ofW HT_.out HW_.out (by kernel_rfl)) (fun _ _ _ h => h) (Or.inl ⟨by rfl, ?_⟩) hHeld ?_ ?_
 rotate_left
 {
 rintro w' ⟨s0, s1, s2, s3, s4, s5⟩
 go_simp
 with_reducible rfl
 }
 rotate_left
 {
 simp only [Act.put, List.setIfInBounds_toArray, List.set_cons_zero, List.set_cons_succ, i64_w, i32_w]
 rfl
 }
 refine take_ (i := 6) (N := some 126) (v := ?_) (a' := ?_) #[true, true, true, true, true, true, true, false, false, false, false] rfl rfl (take_ofW HT_.out HW_.out (by kernel_rfl)) (fun _ _ _ h => h) (Or.inl ⟨by rfl, ?_⟩) hHeld ?_ ?_
 rotate_left
 {
 rintro w' ⟨s0, s1, s2, s3, s4, s5⟩
 go_simp
 with_reducible rfl
 }
 rotate_left
 {
 simp only [Act.put, List.setIfInBounds_toArray, List.set_cons_zero, List.set_cons_succ, i64_w, i32_w]
 rfl
 }
 refine one_ (i := 7) (N := some 127) #[true, true, true, true, true, true, true, true, false, false, false] rfl rfl (one_of HT_.out (by kernel_rfl)) (by decide) (fun K hK => ?_)
 refine value_ (w1 := ?_) (v := ?_) (by rfl) rfl ?_ ?_
 rotate_left 2
 {
 go_simp
 constructor
 {
 rfl
 }
 {
 rfl
 }
 }
 refine hK.out _ _ ⟨(blk_cell (blk_alloc BK124.out _) 0).trans rfl, (blk_cell (blk_alloc BK124.out _) 1).trans rfl, (World.cell?_alloc_lt _ _ _ (World.block_lt_of_cell? _ _ (hHeld.2.2.1))).trans (hHeld.2.2.1), (World.cell?_alloc_lt _ _ _ (World.block_lt_of_cell? _ _ (hHeld.2.2.2.1))).trans (hHeld.2.2.2.1), (World.cell?_alloc_lt _ _ _ (World.block_lt_of_cell? _ _ (hHeld.2.2.2.2.1))).trans (hHeld.2.2.2.2.1), (World.cell?_alloc_lt _ _ _ (World.block_lt_of_cell? _ _ (hHeld.2.2.2.2.2))).trans (hHeld.2.2.2.2.2)⟩ (fun hHeld => ?_)
 clear hK K
 refine norm_ (a' := ?_) ?_ ?_
 rotate_left
 {
 show Act.put _ (some 127) _ = _
 simp only [Act.put, List.setIfInBounds_toArray, List.set_cons_zero, List.set_cons_succ, i64_w, i32_w]
 rfl
 }
 refine last_ (i := 8) (N := some 128) #[true, true, true, true, true, true, true, true, true, false, false] rfl rfl (one_of HT_.out (by kernel_rfl)) (by decide) (fun K hK => ?_)
 refine Kd.R_append_step (Kd.int .i64) (w0 := w) w.heap.size (by rfl) (.tmp 121) (.tmp 127) 29 2 (.int .i64 0) 8 rfl Try.underlying29 info2 rfl (by decide) (by omega) u125001 x125001_6 ((rd_T112 y138 x93_6).f1) [.int .i64 ((rd_T112 y138 x93_6).f1)] (fun _ => True) (fun _ => False) rfl rfl ?aP (fun _ hk => hk.elim) ?aF ?aO ?aB ?aS ?aL ?_
 (case aP => exact rfl)
 (case aB => exact wB)
 (case aF => exact (fun _ _ => trivial))
 (case aO => exact (Rh HO_125001))
 (case aS => exact (below_size wB))
 (case aL => have := LMc6011.out; omega)
 intro v141 w7011 ho hb hg hat
 rw [← Ny140.out] at ho
 have n0_ := Aside0.mk (Kd.R_over' (Rh HO_10) (Kd.R_typed (Rh HO_125001)) (by decide) hg)
 have n1_ := Aside0.mk (Kd.S_after (ok := (fun k_ => k_ ≠ gb124)) (Kd.S_mono (Sh HO_13) (fun _ hk => ⟨hk.2, hk.1⟩)) hg hat)
 have n2_ := Aside0.mk (blk_grown (Bh BK124) hg (Kd.R_ne HO_125001.out BK124.out (by decide)))
 have n3_ := Aside0.mk (blk_grown (Bh BK132) hg (Kd.R_ne HO_125001.out BK132.out (by decide)))
 have n4_ := Aside0.mk (hb)
 have n5_ := Aside0.mk (ho)
 clear HO_10
 clear HO_13
 clear BK124
 clear BK132
 clear HB
 clear HO_125001
 have HO_10 := n0_
 have HO_13 := n1_
 have BK124 := n2_
 have BK132 := n3_
 have HB := n4_
 have HO142 := n5_
 clear n0_ n1_ n2_ n3_ n4_ n5_
 clear ho hb hg hat
 obtain ⟨Ao7012, co7012, eo7012⟩ := Kd.R_slice HO142.out
 (first | subst eo7012 | (injection eo7012 with f1_ f2_ f3_; have f4_ := f1_.symm; have f5_ := f3_.symm; clear f1_ f2_ f3_; subst f4_; subst f5_))
 refine hK.out _ _ ?_
 clear hK K
 refine norm_ (a' := ?_) ?_ ?_
 rotate_left
 {
 show Act.put _ (some 128) _ = _
 simp only [Act.put, List.setIfInBounds_toArray, List.set_cons_zero, List.set_cons_succ, i64_w, i32_w]
 rfl
 }
 refine pure_ (i := 9) (N := some 129) (v := ?_) (a' := ?_) #[true, true, true, true, true, true, true, true, true, true, false] rfl rfl (any_of HT_.out (by kernel_rfl)) (fun _ _ _ h => h) (Or.inl ⟨by rfl, ?_⟩) ?_ ?_
 rotate_left
 {
 intro w'
 go_simp
 with_reducible rfl
 }
 rotate_left
 {
 simp only [Act.put, List.setIfInBounds_toArray, List.set_cons_zero, List.set_cons_succ, i64_w, i32_w]
 rfl
 }
 refine last_ (i := 10) (N := none) #[true, true, true, true, true, true, true, true, true, true, true] rfl rfl (one_of HT_.out (by kernel_rfl)) (by decide) (fun K hK => ?_)
 have hs7013 : w7011.cell? ⟨gb124, 1, none⟩ = some (u125001) := (blk_cell BK124.out 1).trans rfl
 have hfs7013 := blk_frozen BK124.out 1
 have hns7013_1 := NB132_124.out
 have hms7013_1 := NB124_132.out
 refine skip_ (w1 := ?_) (by rfl) rfl ?_ ?_
 rotate_left
 {
 go_simp
 rfl
 }
 refine hK.out _ _ ?_
 clear hK K
 refine done_ (done_of HT_.out (by kernel_rfl)) ?_
 try go_wp2
 (try simp only [← hl10_6])
 go_roundg k6
 case measure => have := HJ4.out; have := HK2.out; have := HJ2006.out; have := HK4.out; have := HK5.out; have := HK6.out; omega
 case rel => exact ⟨(y138), (wrap64 (x93_6 + 1)), (y140), (.slice Ao7012 y140.length co7012), (by first | rfl | (simp; done) | (simp [*]; done)), H', ⟨by have := HJ4.out; have := HK2.out; have := HJ2006.out; have := HK4.out; have := HK5.out; have := HK6.out; omega⟩, ⟨by (try simp only [hl10_6]); (with_reducible repeat (first | apply Kd.R_alloc | apply Kd.R_drewN | apply Kd.R_drew)); exact Kd.R_mono (Kd.R_far (p := ⟨gb124, 1, none⟩) (Kd.R_types HO_10.out BK124.out (by decide)) (fun _ hk => hk.2) (.slice Ao7012 y140.length co7012)) (fun _ hk => trivial)⟩, ⟨by (try simp only [hl10_6]); (with_reducible repeat (first | apply Kd.S_alloc | apply Kd.S_drewN | apply Kd.S_drew)); exact Kd.S_mono (Kd.S_far (p := ⟨gb124, 1, none⟩) (Kd.S_mono HO_13.out (fun k_ hk => (⟨hk, hk.1⟩ : _ ∧ k_ ≠ gb124))) (fun _ hk => hk.2) (.slice Ao7012 y140.length co7012)) (fun _ hk => ⟨hk.1.2, hk.1.1⟩)⟩, ⟨by (try simp only [hl10_6]); (with_reducible repeat (first | apply Kd.R_alloc | apply Kd.R_drewN | apply Kd.R_drew)); exact Kd.R_mono (Kd.R_far (p := ⟨gb124, 1, none⟩) (Kd.R_types HO142.out BK124.out (by decide)) (fun _ hk => hk.2) (.slice Ao7012 y140.length co7012)) (fun _ hk => trivial)⟩, ⟨by (try simp only [hl10_6]); (with_reducible repeat (first | refine blk_drewN ?_ _ | refine blk_drew ?_ | refine blk_alloc ?_ _)); refine blk_put (cs := #[.bool true, u125001]) ?_ 1 _ rfl; (with_reducible repeat (first | refine blk_drewN ?_ _ | refine blk_drew ?_ | refine blk_alloc ?_ _)); exact BK124.out⟩, ⟨wB⟩⟩
 }
 {
 try go_wp2_with (first | ((with_reducible refine gate_dst (N := 19) rfl ?_); (try (refine gate_guard (by rfl) ?_; dsimp only)); refine box_event ?hg (N := 19) ?hd (cs := #[.int .i64 0, .int .i64 0, .int .i64 0, .int .i64 0]) (t := 112) ?hr ?_; (case hd => rfl); (case hg => rfl); (case hr => first | (go_simp; done) | (go_simp; rfl)); intro gb132 hg w7001 hbox hb; have n0_ := Aside0.mk (Kd.R_below (Kd.R_elderB (Rh HO_10) gb132 (Nat.le_of_eq hg.symm)) hb); have n1_ := Aside0.mk (Kd.S_below (Sh HO_13) hb); have n2_ := Aside0.mk (Kd.R_below (Rh HO_125001) hb); have n3_ := Aside0.mk (blk_below (Bh BK124) hb); have n4_ := Aside0.mk (below_step wB hb); have n5_ := Aside0.mk (hbox); have n6_ := Aside0.mk ((by rw [hg]; exact (below_size wB) : w.heap.size ≤ gb132)); have n7_ := Aside0.mk ((by rw [hg]; exact (below_size wB) : w.heap.size ≤ gb132)); have n8_ := Aside0.mk ((by rw [hg]; exact Nat.ne_of_lt (blk_lt (Bh BK124)) : gb124 ≠ gb132)); have n9_ := Aside0.mk ((by rw [hg]; exact Nat.ne_of_gt (blk_lt (Bh BK124)) : gb132 ≠ gb124)); clear HO_10; clear HO_13; clear HO_125001; clear BK124; clear HB; have HO_10 := n0_; have HO_13 := n1_; have HO_125001 := n2_; have BK124 := n3_; have HB := n4_; have BK132 := n5_; have GW132 := n6_; have GE132 := n7_; have NB124_132 := n8_; have NB132_124 := n9_; clear n0_ n1_ n2_ n3_ n4_ n5_ n6_ n7_ n8_ n9_; clear hb hbox hg; have hnb7002 := NB132_124.out; have hnc7002 := NB124_132.out; obtain ⟨⟨hcz7003_0, hcz7003_1, hcz7003_2, hcz7003_3⟩, hfz7003_0, hfz7003_1, hfz7003_2, hfz7003_3⟩ := cells4 BK132.out) | ((with_reducible refine gate_store (t := 112) (p := 19) rfl ?_); (try (rw [drewN_self w7001]; generalize hq_ : World.drewN w7001 _ = w7001; have n0_ := Aside0.mk (Kd.R_at hq_ HO_10.out); have n1_ := Aside0.mk (Kd.S_at hq_ HO_13.out); have n2_ := Aside0.mk (Kd.R_at hq_ HO_125001.out); have n3_ := Aside0.mk (blk_at hq_ BK124.out); have n4_ := Aside0.mk (blk_at hq_ BK132.out); have n5_ := Aside0.mk (below_at hq_ HB.out); clear hq_ HO_10 HO_13 HO_125001 BK124 BK132 HB; have HO_10 := n0_; have HO_13 := n1_; have HO_125001 := n2_; have BK124 := n3_; have BK132 := n4_; have HB := n5_; clear n0_ n1_ n2_ n3_ n4_ n5_; (try (obtain ⟨⟨hcyBK124_0, hcyBK124_1⟩, hfyBK124_0, hfyBK124_1⟩ := cells2 BK124.out)); (try (obtain ⟨⟨hcyBK132_0, hcyBK132_1, hcyBK132_2, hcyBK132_3⟩, hfyBK132_0, hfyBK132_1, hfyBK132_2, hfyBK132_3⟩ := cells4 BK132.out)))); refine store_event (t := 112) (p := 19) (v := ?_) (w1 := ((((w7001.setCell ⟨gb132, 0, none⟩ (.int .i64 ((rd_T112 x10_6 x93_6).f0))).setCell ⟨gb132, 1, none⟩ (.int .i64 ((rd_T112 x10_6 x93_6).f1))).setCell ⟨gb132, 2, none⟩ (.int .i64 ((rd_T112 x10_6 x93_6).f2))).setCell ⟨gb132, 3, none⟩ (.int .i64 ((rd_T112 x10_6 x93_6).f3)))) ?hg ?ho ?hn ?hr ?_; (case ho => rfl); (case hg => rfl); (case hn => rfl); (case hr => first | (go_simp; done) | (go_simp; rfl)); intro w7004 hw; have n0_ : Aside0 (Kd.R k112 112 w7004 w.heap.size (fun k_ => k_ ≠ gb132) (.slice (some ad131) x10_6.length co5001) x10_6) := ⟨(by rw [hw]; exact (by (with_reducible repeat (first | apply Kd.R_alloc | apply Kd.R_drewN | apply Kd.R_drew)); exact Kd.R_mono (Kd.R_far (p := ⟨gb132, 3, none⟩) (Kd.R_far (p := ⟨gb132, 2, none⟩) (Kd.R_far (p := ⟨gb132, 1, none⟩) (Kd.R_far (p := ⟨gb132, 0, none⟩) (Kd.R_mono HO_10.out (fun k_ hk => (⟨hk, hk.2⟩ : _ ∧ k_ ≠ gb132))) (fun _ hk => hk.2) (.int .i64 ((rd_T112 x10_6 x93_6).f0))) (fun _ hk => hk.2) (.int .i64 ((rd_T112 x10_6 x93_6).f1))) (fun _ hk => hk.2) (.int .i64 ((rd_T112 x10_6 x93_6).f2))) (fun _ hk => hk.2) (.int .i64 ((rd_T112 x10_6 x93_6).f3))) (fun _ hk => hk.1.2)))⟩; have n1_ : Aside0 (Kd.S k35 35 w7004 w.heap.size (fun k_ => some k_ ≠ (u125001 : Value).ownBlock ∧ k_ ≠ gb124) u13 x13_4) := ⟨(by rw [hw]; exact (by (with_reducible repeat (first | apply Kd.S_alloc | apply Kd.S_drewN | apply Kd.S_drew)); exact Kd.S_mono (Kd.S_far (p := ⟨gb132, 3, none⟩) (Kd.S_far (p := ⟨gb132, 2, none⟩) (Kd.S_far (p := ⟨gb132, 1, none⟩) (Kd.S_far (p := ⟨gb132, 0, none⟩) (Kd.S_types HO_13.out BK132.out (by decide)) (fun _ hk => hk.2) (.int .i64 ((rd_T112 x10_6 x93_6).f0))) (fun _ hk => hk.2) (.int .i64 ((rd_T112 x10_6 x93_6).f1))) (fun _ hk => hk.2) (.int .i64 ((rd_T112 x10_6 x93_6).f2))) (fun _ hk => hk.2) (.int .i64 ((rd_T112 x10_6 x93_6).f3))) (fun _ hk => ⟨hk.1.1, hk.1.2⟩)))⟩; have n2_ : Aside0 (Kd.R (Kd.int .i64) 2 w7004 w.heap.size (fun _ => True) u125001 x125001_6) := ⟨(by rw [hw]; exact (by (with_reducible repeat (first | apply Kd.R_alloc | apply Kd.R_drewN | apply Kd.R_drew)); exact Kd.R_mono (Kd.R_far (p := ⟨gb132, 3, none⟩) (Kd.R_far (p := ⟨gb132, 2, none⟩) (Kd.R_far (p := ⟨gb132, 1, none⟩) (Kd.R_far (p := ⟨gb132, 0, none⟩) (Kd.R_types HO_125001.out BK132.out (by decide)) (fun _ hk => hk.2) (.int .i64 ((rd_T112 x10_6 x93_6).f0))) (fun _ hk => hk.2) (.int .i64 ((rd_T112 x10_6 x93_6).f1))) (fun _ hk => hk.2) (.int .i64 ((rd_T112 x10_6 x93_6).f2))) (fun _ hk => hk.2) (.int .i64 ((rd_T112 x10_6 x93_6).f3))) (fun _ hk => trivial)))⟩; have n3_ : Aside0 (w7004.heap[gb124]? = some (.cells #[.bool false, u125001] 35 (0, 0))) := ⟨(by rw [hw]; exact (by (with_reducible repeat (first | refine blk_drewN ?_ _ | refine blk_drew ?_ | refine blk_alloc ?_ _)); refine blk_far ?_ NB124_132.out _; (with_reducible repeat (first | refine blk_drewN ?_ _ | refine blk_drew ?_ | refine blk_alloc ?_ _)); refine blk_far ?_ NB124_132.out _; (with_reducible repeat (first | refine blk_drewN ?_ _ | refine blk_drew ?_ | refine blk_alloc ?_ _)); refine blk_far ?_ NB124_132.out _; (with_reducible repeat (first | refine blk_drewN ?_ _ | refine blk_drew ?_ | refine blk_alloc ?_ _)); refine blk_far ?_ NB124_132.out _; (with_reducible repeat (first | refine blk_drewN ?_ _ | refine blk_drew ?_ | refine blk_alloc ?_ _)); exact BK124.out))⟩; have n4_ : Aside0 (w7004.heap[gb132]? = some (.cells #[.int .i64 ((rd_T112 x10_6 x93_6).f0), .int .i64 ((rd_T112 x10_6 x93_6).f1), .int .i64 ((rd_T112 x10_6 x93_6).f2), .int .i64 ((rd_T112 x10_6 x93_6).f3)] 112 (0, 0))) := ⟨(by rw [hw]; exact (by (with_reducible repeat (first | refine blk_drewN ?_ _ | refine blk_drew ?_ | refine blk_alloc ?_ _)); refine blk_put (cs := #[.int .i64 ((rd_T112 x10_6 x93_6).f0), .int .i64 ((rd_T112 x10_6 x93_6).f1), .int .i64 ((rd_T112 x10_6 x93_6).f2), .int .i64 0]) ?_ 3 _ rfl; (with_reducible repeat (first | refine blk_drewN ?_ _ | refine blk_drew ?_ | refine blk_alloc ?_ _)); refine blk_put (cs := #[.int .i64 ((rd_T112 x10_6 x93_6).f0), .int .i64 ((rd_T112 x10_6 x93_6).f1), .int .i64 0, .int .i64 0]) ?_ 2 _ rfl; (with_reducible repeat (first | refine blk_drewN ?_ _ | refine blk_drew ?_ | refine blk_alloc ?_ _)); refine blk_put (cs := #[.int .i64 ((rd_T112 x10_6 x93_6).f0), .int .i64 0, .int .i64 0, .int .i64 0]) ?_ 1 _ rfl; (with_reducible repeat (first | refine blk_drewN ?_ _ | refine blk_drew ?_ | refine blk_alloc ?_ _)); refine blk_put (cs := #[.int .i64 0, .int .i64 0, .int .i64 0, .int .i64 0]) ?_ 0 _ rfl; (with_reducible repeat (first | refine blk_drewN ?_ _ | refine blk_drew ?_ | refine blk_alloc ?_ _)); exact BK132.out))⟩; have n5_ : Aside0 (Below w.heap.size w w7004) := ⟨(by rw [hw]; exact wB)⟩; clear hw; clear HO_10; clear HO_13; clear HO_125001; clear BK124; clear BK132; clear HB; have HO_10 := n0_; have HO_13 := n1_; have HO_125001 := n2_; have BK124 := n3_; have BK132 := n4_; have HB := n5_; clear n0_ n1_ n2_ n3_ n4_ n5_; obtain ⟨⟨hcz7005_0, hcz7005_1⟩, hfz7005_0, hfz7005_1⟩ := cells2 BK124.out; obtain ⟨⟨hcz7006_0, hcz7006_1, hcz7006_2, hcz7006_3⟩, hfz7006_0, hfz7006_1, hfz7006_2, hfz7006_3⟩ := cells4 BK132.out) | ((with_reducible refine gate_callee (f := 67) rfl ?_); refine goesL_ (some 116) rfl rfl Try.func67 (by kernel_rfl) rfl #[.agg #[.int .i64 ((rd_T112 x10_6 x93_6).f0), .int .i64 ((rd_T112 x10_6 x93_6).f1), .int .i64 ((rd_T112 x10_6 x93_6).f2), .int .i64 ((rd_T112 x10_6 x93_6).f3)], .int .i64 ((rd_T112 x10_6 x93_6).f1)] rfl wT ?_; (with_reducible refine (impl_CongAck.calls k6 ((rd_T112 x10_6 x93_6).f0) ((rd_T112 x10_6 x93_6).f1) ((rd_T112 x10_6 x93_6).f2) ((rd_T112 x10_6 x93_6).f3) ((rd_T112 x10_6 x93_6).f1) t143 t144 t145 t146 t147 _ A6012.out).mono ?_); rintro e w7007 ⟨rfl, hb⟩; refine ⟨_, rfl, ?_⟩; have n0_ := Aside0.mk (Kd.R_below (Rh HO_10) hb); have n1_ := Aside0.mk (Kd.S_below (Sh HO_13) hb); have n2_ := Aside0.mk (Kd.R_below (Rh HO_125001) hb); have n3_ := Aside0.mk (blk_below (Bh BK124) hb); have n4_ := Aside0.mk (blk_below (Bh BK132) hb); have n5_ := Aside0.mk (below_step wB hb); clear HO_10; clear HO_13; clear HO_125001; clear BK124; clear BK132; clear HB; have HO_10 := n0_; have HO_13 := n1_; have HO_125001 := n2_; have BK124 := n3_; have BK132 := n4_; have HB := n5_; clear n0_ n1_ n2_ n3_ n4_ n5_; (try clear hb); (try clear hb2); (try clear hk); (try clear hi); have p6013 : 0 ≤ (x93_6 : Int) := of_decide_eq_true (by first | (with_reducible assumption) | assumption); have q6013 : (x93_6 : Int) < ((x10_6.length : Int) : Int) := of_decide_eq_true (by first | (with_reducible assumption) | assumption); obtain ⟨go6013, co6013, eo6013, gb6013, gl6013, cl6013, HG6013⟩ := Kd.R_form HO_10.out (by omega); (first | cases eo6013 | (injection eo6013 with ea_ en_ ec_; (first | subst ea_ | (injection ea_ with ea_; subst ea_)); subst ec_; clear en_)); have GB6013 := Aside0.mk gb6013; have GG6013 := Aside0.mk HG6013; clear gb6013 gl6013 HG6013; (first | simp only [add_plain] at hx131_0 | skip); (first | simp only [add_plain] at hx131_1 | skip); (first | simp only [add_plain] at hx131_2 | skip); (first | simp only [add_plain] at hx131_3 | skip); obtain ⟨ce6013, hcl6013, hM6013, hcc6013, hfr6013⟩ := Kd.R_elem HO_10.out z112 (x93_6 : Int) p6013 q6013; obtain rfl := k112_openM hM6013; have hx6013_0 : w7007.cell? ⟨go6013, (x93_6 : Int).toNat * 4, none⟩ = some (.int .i64 ((rd_T112 x10_6 x93_6).f0)) := hcc6013 0 _ rfl; have hx6013_1 : w7007.cell? ⟨go6013, (x93_6 : Int).toNat * 4 + 1, none⟩ = some (.int .i64 ((rd_T112 x10_6 x93_6).f1)) := hcc6013 1 _ rfl; have hx6013_2 : w7007.cell? ⟨go6013, (x93_6 : Int).toNat * 4 + 2, none⟩ = some (.int .i64 ((rd_T112 x10_6 x93_6).f2)) := hcc6013 2 _ rfl; have hx6013_3 : w7007.cell? ⟨go6013, (x93_6 : Int).toNat * 4 + 3, none⟩ = some (.int .i64 ((rd_T112 x10_6 x93_6).f3)) := hcc6013 3 _ rfl; have hf6013_0 : w7007.frozen? ⟨go6013, (x93_6 : Int).toNat * 4, none⟩ = false := hfr6013 0; have hf6013_1 : w7007.frozen? ⟨go6013, (x93_6 : Int).toNat * 4 + 1, none⟩ = false := hfr6013 1; have hf6013_2 : w7007.frozen? ⟨go6013, (x93_6 : Int).toNat * 4 + 2, none⟩ = false := hfr6013 2; have hf6013_3 : w7007.frozen? ⟨go6013, (x93_6 : Int).toNat * 4 + 3, none⟩ = false := hfr6013 3; clear hcl6013 hcc6013 hfr6013 hM6013; replace p6013 := eq_true p6013; replace q6013 := eq_true q6013; have HX7008 := Aside0.mk (show Kd.R k112 112 w7007 w.heap.size (fun k_ => k_ ≠ gb132) (.slice (some ⟨go6013, 0, none⟩) x10_6.length co5001) x10_6 from (Rh HO_10)); obtain ⟨ce7008, hcl7008, hM7008, hcc7008, hfr7008⟩ := Kd.R_elem HX7008.out z112 (x93_6 : Int) (of_decide_eq_true (by first | (with_reducible assumption) | assumption)) (by have h_ : (x93_6 : Int) < ((x10_6.length : Int) : Int) := of_decide_eq_true (by first | (with_reducible assumption) | assumption); first | exact h_ | (have e_ := (Kd.R_reads' HO_10.out).1; omega) | simpa using h_); obtain rfl := k112_openM hM7008; have HP7008 := Kd.R_seg HX7008.out (x93_6 : Int) (of_decide_eq_true (by first | (with_reducible assumption) | assumption)) (by have h_ : (x93_6 : Int) < ((x10_6.length : Int) : Int) := of_decide_eq_true (by first | (with_reducible assumption) | assumption); first | exact h_ | (have e_ := (Kd.R_reads' HO_10.out).1; omega) | simpa using h_) (seg := [.int .i64 t143, .int .i64 t144, .int .i64 t145, .int .i64 t146]) (j := 0) hcl7008 hcc7008 (show 4 ≤ 4 from by decide) (x' := (⟨t143, t144, t145, t146⟩ : S112)) (k112_mkM _ _ _ (⟨t143, t144, t145, t146⟩ : S112) ) (fun _ hk => hk); have hx7008_0 := hcc7008 0 _ rfl; (try simp only [show (k112).sz = 4 from rfl, Nat.mul_one, Nat.add_zero] at hx7008_0); have hf7008_0 := hfr7008 0; (try simp only [show (k112).sz = 4 from rfl, Nat.mul_one, Nat.add_zero] at hf7008_0); have hx7008_1 := hcc7008 1 _ rfl; (try simp only [show (k112).sz = 4 from rfl, Nat.mul_one, Nat.add_zero] at hx7008_1); have hf7008_1 := hfr7008 1; (try simp only [show (k112).sz = 4 from rfl, Nat.mul_one, Nat.add_zero] at hf7008_1); have hx7008_2 := hcc7008 2 _ rfl; (try simp only [show (k112).sz = 4 from rfl, Nat.mul_one, Nat.add_zero] at hx7008_2); have hf7008_2 := hfr7008 2; (try simp only [show (k112).sz = 4 from rfl, Nat.mul_one, Nat.add_zero] at hf7008_2); have hx7008_3 := hcc7008 3 _ rfl; (try simp only [show (k112).sz = 4 from rfl, Nat.mul_one, Nat.add_zero] at hx7008_3); have hf7008_3 := hfr7008 3; (try simp only [show (k112).sz = 4 from rfl, Nat.mul_one, Nat.add_zero] at hf7008_3); clear hcl7008 hcc7008 hfr7008 hM7008) | ((with_reducible refine gate_store (t := 112) (p := 119) rfl ?_); (try (rw [drewN_self w7007]; generalize hq_ : World.drewN w7007 _ = w7007; have n0_ := Aside0.mk (Kd.R_at hq_ HO_10.out); have n1_ := Aside0.mk (Kd.S_at hq_ HO_13.out); have n2_ := Aside0.mk (Kd.R_at hq_ HO_125001.out); have n3_ := Aside0.mk (blk_at hq_ BK124.out); have n4_ := Aside0.mk (blk_at hq_ BK132.out); have n5_ := Aside0.mk (below_at hq_ HB.out); clear hq_ HO_10 HO_13 HO_125001 BK124 BK132 HB; have HO_10 := n0_; have HO_13 := n1_; have HO_125001 := n2_; have BK124 := n3_; have BK132 := n4_; have HB := n5_; clear n0_ n1_ n2_ n3_ n4_ n5_; (try (obtain ⟨⟨hcyBK124_0, hcyBK124_1⟩, hfyBK124_0, hfyBK124_1⟩ := cells2 BK124.out)); (try (obtain ⟨⟨hcyBK132_0, hcyBK132_1, hcyBK132_2, hcyBK132_3⟩, hfyBK132_0, hfyBK132_1, hfyBK132_2, hfyBK132_3⟩ := cells4 BK132.out)); (try (have HX7008 := Aside0.mk (show Kd.R k112 112 w7007 w.heap.size (fun k_ => k_ ≠ gb132) (.slice (some ⟨go6013, 0, none⟩) x10_6.length co5001) x10_6 from (Rh HO_10)))); (try (obtain ⟨ce7008, hcl7008, hM7008, hcc7008, hfr7008⟩ := Kd.R_elem HX7008.out z112 (x93_6 : Int) (of_decide_eq_true (by first | (with_reducible assumption) | assumption)) (by have h_ : (x93_6 : Int) < ((x10_6.length : Int) : Int) := of_decide_eq_true (by first | (with_reducible assumption) | assumption); first | exact h_ | (have e_ := (Kd.R_reads' HO_10.out).1; omega) | simpa using h_))); (try (obtain rfl := k112_openM hM7008)); (try (have HP7008 := Kd.R_seg HX7008.out (x93_6 : Int) (of_decide_eq_true (by first | (with_reducible assumption) | assumption)) (by have h_ : (x93_6 : Int) < ((x10_6.length : Int) : Int) := of_decide_eq_true (by first | (with_reducible assumption) | assumption); first | exact h_ | (have e_ := (Kd.R_reads' HO_10.out).1; omega) | simpa using h_) (seg := [.int .i64 t143, .int .i64 t144, .int .i64 t145, .int .i64 t146]) (j := 0) hcl7008 hcc7008 (show 4 ≤ 4 from by decide) (x' := (⟨t143, t144, t145, t146⟩ : S112)) (k112_mkM _ _ _ (⟨t143, t144, t145, t146⟩ : S112) ) (fun _ hk => hk))); (try (have hx7008_0 := hcc7008 0 _ rfl)); (try (try simp only [show (k112).sz = 4 from rfl, Nat.mul_one, Nat.add_zero] at hx7008_0)); (try (have hf7008_0 := hfr7008 0)); (try (try simp only [show (k112).sz = 4 from rfl, Nat.mul_one, Nat.add_zero] at hf7008_0)); (try (have hx7008_1 := hcc7008 1 _ rfl)); (try (try simp only [show (k112).sz = 4 from rfl, Nat.mul_one, Nat.add_zero] at hx7008_1)); (try (have hf7008_1 := hfr7008 1)); (try (try simp only [show (k112).sz = 4 from rfl, Nat.mul_one, Nat.add_zero] at hf7008_1)); (try (have hx7008_2 := hcc7008 2 _ rfl)); (try (try simp only [show (k112).sz = 4 from rfl, Nat.mul_one, Nat.add_zero] at hx7008_2)); (try (have hf7008_2 := hfr7008 2)); (try (try simp only [show (k112).sz = 4 from rfl, Nat.mul_one, Nat.add_zero] at hf7008_2)); (try (have hx7008_3 := hcc7008 3 _ rfl)); (try (try simp only [show (k112).sz = 4 from rfl, Nat.mul_one, Nat.add_zero] at hx7008_3)); (try (have hf7008_3 := hfr7008 3)); (try (try simp only [show (k112).sz = 4 from rfl, Nat.mul_one, Nat.add_zero] at hf7008_3)); (try (clear hcl7008 hcc7008 hfr7008 hM7008)))); refine store_event (t := 112) (p := 119) (v := ?_) (w1 := ((((w7007.setCell ⟨go6013, (x93_6 : Int).toNat * 4, none⟩ (.int .i64 t143)).setCell ⟨go6013, (x93_6 : Int).toNat * 4 + 1, none⟩ (.int .i64 t144)).setCell ⟨go6013, (x93_6 : Int).toNat * 4 + 2, none⟩ (.int .i64 t145)).setCell ⟨go6013, (x93_6 : Int).toNat * 4 + 3, none⟩ (.int .i64 t146))) ?hg ?ho ?hn ?hr ?_; (case ho => rfl); (case hg => rfl); (case hn => rfl); (case hr => first | (go_simp; done) | (go_simp; rfl)); intro w7009 hw; have hg : w7007.grownBy w7009 (some go6013) := (by rw [hw]; exact HP7008.2); have hp_ : Kd.R k112 112 w7009 w.heap.size (fun k_ => k_ ≠ gb132) (.slice (some ⟨go6013, 0, none⟩) x10_6.length co5001) y148 := (by rw [hw, Ny148.out]; exact HP7008.1); clear HP7008; have n0_ := Aside0.mk (hp_); have n1_ := Aside0.mk (Kd.S_over' (v := (.slice (some ⟨go6013, 0, none⟩) x10_6.length co5001)) (Sh HO_13) (Kd.R_typed HO_10.out) (by decide) hg); have n2_ := Aside0.mk (Kd.R_over' (v := (.slice (some ⟨go6013, 0, none⟩) x10_6.length co5001)) (Rh HO_125001) (Kd.R_typed HO_10.out) (by decide) hg); have n3_ := Aside0.mk (blk_grown (Bh BK124) hg (Kd.R_ne HO_10.out BK124.out (by decide))); have n4_ := Aside0.mk (blk_grown (Bh BK132) hg (Kd.R_away HO_10.out (fun _ hk => hk))); have n5_ := Aside0.mk ((by rw [hw]; exact below_set (below_set (below_set (below_set (HB.out) GB6013.out) GB6013.out) GB6013.out) GB6013.out : Below w.heap.size w w7009)); clear HO_10; clear HO_13; clear HO_125001; clear BK124; clear BK132; clear HB; have HO_10 := n0_; have HO_13 := n1_; have HO_125001 := n2_; have BK124 := n3_; have BK132 := n4_; have HB := n5_; clear n0_ n1_ n2_ n3_ n4_ n5_; clear hg hw hp_))
 have n0_ := Aside0.mk (Kd.R_drew HO_10.out)
 have n1_ := Aside0.mk (Kd.S_drew HO_13.out)
 have n2_ := Aside0.mk (Kd.R_drew HO_125001.out)
 have n3_ := Aside0.mk (blk_drew BK124.out)
 have n4_ := Aside0.mk (blk_drew BK132.out)
 have n5_ := Aside0.mk (below_drew1 HB.out)
 clear HO_10
 clear HO_13
 clear HO_125001
 clear BK124
 clear BK132
 clear HB
 have HO_10 := n0_
 have HO_13 := n1_
 have HO_125001 := n2_
 have BK124 := n3_
 have BK132 := n4_
 have HB := n5_
 clear n0_ n1_ n2_ n3_ n4_ n5_
 have p149 : 0 ≤ (x93_6 : Int) := of_decide_eq_true (by first | (with_reducible assumption) | assumption)
 have q149 : x93_6 < (y148.length : Int) := (by have h_ : (x93_6 : Int) < ((x10_6.length : Int) : Int) := of_decide_eq_true (by first | (with_reducible assumption) | assumption); first | (have e_ := (Kd.R_reads' HO_10.out).1; omega) | simpa only [Ny148.out, List.length_set] using h_)
 have ql149 : ((x93_6 : Int) < ((x10_6.length : Int) : Int)) = True := eq_true (of_decide_eq_true (by first | (with_reducible assumption) | assumption))
 obtain ⟨ad149, e149, hx149_0, hx149_1, hx149_2, hx149_3⟩ := at_T112 (Kd.R_reads' HO_10.out).2.2 x93_6 p149 q149
 obtain rfl : (⟨go6013, 0, none⟩ : Addr) = ad149 := (by injection e149)
 (first | simp only [add_plain] at hx149_0 | simp only [add_at] at hx149_0 | simp only [Addr.add, Nat.zero_add] at hx149_0 | skip)
 (first | simp only [add_plain] at hx149_1 | simp only [add_at] at hx149_1 | simp only [Addr.add, Nat.zero_add] at hx149_1 | skip)
 (first | simp only [add_plain] at hx149_2 | simp only [add_at] at hx149_2 | simp only [Addr.add, Nat.zero_add] at hx149_2 | skip)
 (first | simp only [add_plain] at hx149_3 | simp only [add_at] at hx149_3 | simp only [Addr.add, Nat.zero_add] at hx149_3 | skip)
 replace p149 := eq_true p149
 replace q149 := eq_true q149
 refine start_ (n := 11) (S := fun w' => w'.cell? ⟨gb124, 0, none⟩ = some (.bool false) ∧ w'.cell? ⟨gb124, 1, none⟩ = some (u125001) ∧ w'.cell? ⟨go6013, (x93_6).toNat * 4, none⟩ = some (.int .i64 ((rd_T112 y148 x93_6).f0)) ∧ w'.cell? ⟨go6013, (x93_6).toNat * 4 + 1, none⟩ = some (.int .i64 ((rd_T112 y148 x93_6).f1)) ∧ w'.cell? ⟨go6013, (x93_6).toNat * 4 + 2, none⟩ = some (.int .i64 ((rd_T112 y148 x93_6).f2)) ∧ w'.cell? ⟨go6013, (x93_6).toNat * 4 + 3, none⟩ = some (.int .i64 ((rd_T112 y148 x93_6).f3))) (ds := [8, 10]) #[false, false, false, false, false, false, false, false, false, false, false] (by kernel_rfl) rfl rfl ⟨(blk_cell BK124.out 0).trans rfl, (blk_cell BK124.out 1).trans rfl, hx149_0, hx149_1, hx149_2, hx149_3⟩ (fun hHeld => ?_); refine with_tabW impl_Share.tab29 impl_Share.bits29 (fun HT_ HW_ => ?_)
 generalize w7009.drew = w7010 at HO_10 HO_13 HO_125001 BK124 BK132 HB hx149_0 hx149_1 hx149_2 hx149_3 hHeld ⊢
 refine pure_ (i := 0) (N := some 120) (v := ?_) (a' := ?_) #[true, false, false, false, false, false, false, false, false, false, false] rfl rfl (any_of HT_.out (by kernel_rfl)) (fun _ _ _ h => h) (Or.inl ⟨by rfl, ?_⟩) ?_ ?_
 rotate_left
 {
 intro w'
 go_simp
 with_reducible rfl
 }
 rotate_left
 {
 simp only [Act.put, List.setIfInBounds_toArray, List.set_cons_zero, List.set_cons_succ, i64_w, i32_w]
 rfl
 }
 refine pure_ (i := 2) (N := some 122) (v := ?_) (a' := ?_) #[true, false, true, false, false, false, false, false, false, false, false] rfl rfl (any_of HT_.out (by kernel_rfl)) (fun _ _ _ h => h) (Or.inl ⟨by rfl, ?_⟩) ?_ ?_
 rotate_left
 {
 intro w'
 go_simp
 with_reducible rfl
 }
 rotate_left
 {
 simp only [Act.put, List.setIfInBounds_toArray, List.set_cons_zero, List.set_cons_succ, i64_w, i32_w]
 rfl
 }
 refine pure_ (i := 3) (N := some 123) (v := ?_) (a' := ?_) #[true, false, true, true, false, false, false, false, false, false, false] rfl rfl (any_of HT_.out (by kernel_rfl)) (fun _ _ _ h => h) (Or.inl ⟨by rfl, ?_⟩) ?_ ?_
 rotate_left
 {
 intro w'
 go_simp
 with_reducible rfl
 }
 rotate_left
 {
 simp only [Act.put, List.setIfInBounds_toArray, List.set_cons_zero, List.set_cons_succ, i64_w, i32_w]
 rfl
 }
 refine pure_ (i := 4) (N := some 124) (v := ?_) (a' := ?_) #[true, false, true, true, true, false, false, false, false, false, false] rfl rfl (any_of HT_.out (by kernel_rfl)) (fun _ _ _ h => h) (Or.inl ⟨by rfl, ?_⟩) ?_ ?_
 rotate_left
 {
 intro w'
 go_simp
 with_reducible rfl
 }
 rotate_left
 {
 simp only [Act.put, List.setIfInBounds_toArray, List.set_cons_zero, List.set_cons_succ, i64_w, i32_w]
 rfl
 }
 refine pure_ (i := 5) (N := some 125) (v := ?_) (a' := ?_) #[true, false, true, true, true, true, false, false, false, false, false] rfl rfl (any_of HT_.out (by kernel_rfl)) (fun _ _ _ h => h) (Or.inl ⟨by rfl, ?_⟩) ?_ ?_
 rotate_left
 {
 intro w'
 go_simp
 with_reducible rfl
 }
 rotate_left
 {
 simp only [Act.put, List.setIfInBounds_toArray, List.set_cons_zero, List.set_cons_succ, i64_w, i32_w]
 rfl
 }
 refine take_ (i := 1) (N := some 121) (v := ?_) (a' := ?_) #[true, true, true, true, true, true, false, false, false, false, false] rfl rfl (take_ofW HT_.out HW_.out (by kernel_rfl)) (fun _ _ _ h => h) (Or.inl ⟨by rfl, ?_⟩) hHeld ?_ ?_
 rotate_left
 {
 rintro w' ⟨s0, s1, s2, s3, s4, s5⟩
 go_simp
 with_reducible rfl
 }
 rotate_left
 {
 simp only [Act.put, List.setIfInBounds_toArray, List.set_cons_zero, List.set_cons_succ, i64_w, i32_w]
 rfl
 }
 refine take_ (i := 6) (N := some 126) (v := ?_) (a' := ?_) #[true, true, true, true, true, true, true, false, false, false, false] rfl rfl (take_ofW HT_.out HW_.out (by kernel_rfl)) (fun _ _ _ h => h) (Or.inl ⟨by rfl, ?_⟩) hHeld ?_ ?_
 rotate_left
 {
 rintro w' ⟨s0, s1, s2, s3, s4, s5⟩
 go_simp
 with_reducible rfl
 }
 rotate_left
 {
 simp only [Act.put, List.setIfInBounds_toArray, List.set_cons_zero, List.set_cons_succ, i64_w, i32_w]
 rfl
 }
 refine one_ (i := 7) (N := some 127) #[true, true, true, true, true, true, true, true, false, false, false] rfl rfl (one_of HT_.out (by kernel_rfl)) (by decide) (fun K hK => ?_)
 refine value_ (w1 := ?_) (v := ?_) (by rfl) rfl ?_ ?_
 rotate_left 2
 {
 go_simp
 constructor
 {
 rfl
 }
 {
 rfl
 }
 }
 refine hK.out _ _ ⟨(blk_cell (blk_alloc BK124.out _) 0).trans rfl, (blk_cell (blk_alloc BK124.out _) 1).trans rfl, (World.cell?_alloc_lt _ _ _ (World.block_lt_of_cell? _ _ (hHeld.2.2.1))).trans (hHeld.2.2.1), (World.cell?_alloc_lt _ _ _ (World.block_lt_of_cell? _ _ (hHeld.2.2.2.1))).trans (hHeld.2.2.2.1), (World.cell?_alloc_lt _ _ _ (World.block_lt_of_cell? _ _ (hHeld.2.2.2.2.1))).trans (hHeld.2.2.2.2.1), (World.cell?_alloc_lt _ _ _ (World.block_lt_of_cell? _ _ (hHeld.2.2.2.2.2))).trans (hHeld.2.2.2.2.2)⟩ (fun hHeld => ?_)
 clear hK K
 refine norm_ (a' := ?_) ?_ ?_
 rotate_left
 {
 show Act.put _ (some 127) _ = _
 simp only [Act.put, List.setIfInBounds_toArray, List.set_cons_zero, List.set_cons_succ, i64_w, i32_w]
 rfl
 }
 refine last_ (i := 8) (N := some 128) #[true, true, true, true, true, true, true, true, true, false, false] rfl rfl (one_of HT_.out (by kernel_rfl)) (by decide) (fun K hK => ?_)
 refine Kd.R_append_step (Kd.int .i64) (w0 := w) w.heap.size (by rfl) (.tmp 121) (.tmp 127) 29 2 (.int .i64 0) 8 rfl Try.underlying29 info2 rfl (by decide) (by omega) u125001 x125001_6 ((rd_T112 y148 x93_6).f1) [.int .i64 ((rd_T112 y148 x93_6).f1)] (fun _ => True) (fun _ => False) rfl rfl ?aP (fun _ hk => hk.elim) ?aF ?aO ?aB ?aS ?aL ?_
 (case aP => exact rfl)
 (case aB => exact wB)
 (case aF => exact (fun _ _ => trivial))
 (case aO => exact (Rh HO_125001))
 (case aS => exact (below_size wB))
 (case aL => have := LMc6014.out; omega)
 intro v151 w7011 ho hb hg hat
 rw [← Ny150.out] at ho
 have n0_ := Aside0.mk (Kd.R_over' (Rh HO_10) (Kd.R_typed (Rh HO_125001)) (by decide) hg)
 have n1_ := Aside0.mk (Kd.S_after (ok := (fun k_ => k_ ≠ gb124)) (Kd.S_mono (Sh HO_13) (fun _ hk => ⟨hk.2, hk.1⟩)) hg hat)
 have n2_ := Aside0.mk (blk_grown (Bh BK124) hg (Kd.R_ne HO_125001.out BK124.out (by decide)))
 have n3_ := Aside0.mk (blk_grown (Bh BK132) hg (Kd.R_ne HO_125001.out BK132.out (by decide)))
 have n4_ := Aside0.mk (hb)
 have n5_ := Aside0.mk (ho)
 clear HO_10
 clear HO_13
 clear BK124
 clear BK132
 clear HB
 clear HO_125001
 have HO_10 := n0_
 have HO_13 := n1_
 have BK124 := n2_
 have BK132 := n3_
 have HB := n4_
 have HO152 := n5_
 clear n0_ n1_ n2_ n3_ n4_ n5_
 clear ho hb hg hat
 obtain ⟨Ao7012, co7012, eo7012⟩ := Kd.R_slice HO152.out
 (first | subst eo7012 | (injection eo7012 with f1_ f2_ f3_; have f4_ := f1_.symm; have f5_ := f3_.symm; clear f1_ f2_ f3_; subst f4_; subst f5_))
 refine hK.out _ _ ?_
 clear hK K
 refine norm_ (a' := ?_) ?_ ?_
 rotate_left
 {
 show Act.put _ (some 128) _ = _
 simp only [Act.put, List.setIfInBounds_toArray, List.set_cons_zero, List.set_cons_succ, i64_w, i32_w]
 rfl
 }
 refine pure_ (i := 9) (N := some 129) (v := ?_) (a' := ?_) #[true, true, true, true, true, true, true, true, true, true, false] rfl rfl (any_of HT_.out (by kernel_rfl)) (fun _ _ _ h => h) (Or.inl ⟨by rfl, ?_⟩) ?_ ?_
 rotate_left
 {
 intro w'
 go_simp
 with_reducible rfl
 }
 rotate_left
 {
 simp only [Act.put, List.setIfInBounds_toArray, List.set_cons_zero, List.set_cons_succ, i64_w, i32_w]
 rfl
 }
 refine last_ (i := 10) (N := none) #[true, true, true, true, true, true, true, true, true, true, true] rfl rfl (one_of HT_.out (by kernel_rfl)) (by decide) (fun K hK => ?_)
 have hs7013 : w7011.cell? ⟨gb124, 1, none⟩ = some (u125001) := (blk_cell BK124.out 1).trans rfl
 have hfs7013 := blk_frozen BK124.out 1
 have hns7013_1 := NB132_124.out
 have hms7013_1 := NB124_132.out
 refine skip_ (w1 := ?_) (by rfl) rfl ?_ ?_
 rotate_left
 {
 go_simp
 rfl
 }
 refine hK.out _ _ ?_
 clear hK K
 refine done_ (done_of HT_.out (by kernel_rfl)) ?_
 try go_wp2
 (try simp only [← hl10_6])
 go_roundg k6
 case measure => have := HJ4.out; have := HK2.out; have := HJ2006.out; have := HK4.out; have := HK5.out; have := HK6.out; omega
 case rel => exact ⟨(y148), (wrap64 (x93_6 + 1)), (y150), (.slice Ao7012 y150.length co7012), (by first | rfl | (simp; done) | (simp [*]; done)), H', ⟨by have := HJ4.out; have := HK2.out; have := HJ2006.out; have := HK4.out; have := HK5.out; have := HK6.out; omega⟩, ⟨by (try simp only [hl10_6]); (with_reducible repeat (first | apply Kd.R_alloc | apply Kd.R_drewN | apply Kd.R_drew)); exact Kd.R_mono (Kd.R_far (p := ⟨gb124, 1, none⟩) (Kd.R_types HO_10.out BK124.out (by decide)) (fun _ hk => hk.2) (.slice Ao7012 y150.length co7012)) (fun _ hk => trivial)⟩, ⟨by (try simp only [hl10_6]); (with_reducible repeat (first | apply Kd.S_alloc | apply Kd.S_drewN | apply Kd.S_drew)); exact Kd.S_mono (Kd.S_far (p := ⟨gb124, 1, none⟩) (Kd.S_mono HO_13.out (fun k_ hk => (⟨hk, hk.1⟩ : _ ∧ k_ ≠ gb124))) (fun _ hk => hk.2) (.slice Ao7012 y150.length co7012)) (fun _ hk => ⟨hk.1.2, hk.1.1⟩)⟩, ⟨by (try simp only [hl10_6]); (with_reducible repeat (first | apply Kd.R_alloc | apply Kd.R_drewN | apply Kd.R_drew)); exact Kd.R_mono (Kd.R_far (p := ⟨gb124, 1, none⟩) (Kd.R_types HO152.out BK124.out (by decide)) (fun _ hk => hk.2) (.slice Ao7012 y150.length co7012)) (fun _ hk => trivial)⟩, ⟨by (try simp only [hl10_6]); (with_reducible repeat (first | refine blk_drewN ?_ _ | refine blk_drew ?_ | refine blk_alloc ?_ _)); refine blk_put (cs := #[.bool false, u125001]) ?_ 1 _ rfl; (with_reducible repeat (first | refine blk_drewN ?_ _ | refine blk_drew ?_ | refine blk_alloc ?_ _)); exact BK124.out⟩, ⟨wB⟩⟩
 }
 {
 obtain ⟨⟨hcz7001_0, hcz7001_1⟩, hfz7001_0, hfz7001_1⟩ := cells2 BK124.out
 obtain ⟨Ao7002, co7002, eo7002⟩ := Kd.R_slice HO_125001.out
 subst eo7002
 go_wp2_with (first | ((with_reducible refine gate_callee (f := 68) rfl ?_); refine goesL_ (some 133) rfl rfl Try.func68 (by kernel_rfl) rfl #[.slice Ao7002 x125001_6.length co7002] rfl wT ?_; (with_reducible refine (slices_Clone_int64_int64.calls _ _ x125001_6 t125 _ ?side1 ?side2 A6015.out).mono ?_); (case side1 => exact Ch HO_125001); (case side2 => exact (Kd.R_reads' HO_125001.out).2.1); rintro e w7003 ⟨v126, rfl, ho0, hb⟩; refine ⟨_, rfl, ?_⟩; have n0_ := Aside0.mk (Kd.R_below (Rh HO_10) hb); have n1_ := Aside0.mk (Kd.S_elder' (Sh HO_13) (Kd.R_base ho0) hb); have n2_ := Aside0.mk (Kd.R_elder' (Rh HO_125001) (Kd.R_base ho0) hb); have n3_ := Aside0.mk (Kd.R_lower (Kd.R_new' ho0 (Kd.R_lt (Rh HO_125001))) (below_size wB)); have n4_ := Aside0.mk (blk_below (Bh BK124) hb); have n5_ := Aside0.mk (below_step wB hb); clear HO_10; clear HO_13; clear HO_125001; clear BK124; clear HB; have HO_10 := n0_; have HO_13 := n1_; have HO_125001 := n2_; have HO127 := n3_; have BK124 := n4_; have HB := n5_; clear n0_ n1_ n2_ n3_ n4_ n5_; (try clear hb); (try clear hb2); (try clear hk); (try clear hi); (try clear ho0); obtain ⟨Ao7004, co7004, eo7004⟩ := Kd.R_slice HO127.out; subst eo7004; obtain ⟨⟨hcz7005_0, hcz7005_1⟩, hfz7005_0, hfz7005_1⟩ := cells2 BK124.out) | ((with_reducible refine gate_store (t := 29) (p := 134) rfl ?_); (try (rw [drewN_self w7003]; generalize hq_ : World.drewN w7003 _ = w7003; have n0_ := Aside0.mk (Kd.R_at hq_ HO_10.out); have n1_ := Aside0.mk (Kd.S_at hq_ HO_13.out); have n2_ := Aside0.mk (Kd.R_at hq_ HO_125001.out); have n3_ := Aside0.mk (Kd.R_at hq_ HO127.out); have n4_ := Aside0.mk (blk_at hq_ BK124.out); have n5_ := Aside0.mk (below_at hq_ HB.out); clear hq_ HO_10 HO_13 HO_125001 HO127 BK124 HB; have HO_10 := n0_; have HO_13 := n1_; have HO_125001 := n2_; have HO127 := n3_; have BK124 := n4_; have HB := n5_; clear n0_ n1_ n2_ n3_ n4_ n5_; (try (obtain ⟨⟨hcyBK124_0, hcyBK124_1⟩, hfyBK124_0, hfyBK124_1⟩ := cells2 BK124.out)))); refine store_event (t := 29) (p := 134) (v := ?_) (w1 := (w7003.setCell ⟨gb124, 1, none⟩ (.slice Ao7004 t125.length co7004))) ?hg ?ho ?hn ?hr ?_; (case ho => rfl); (case hg => rfl); (case hn => rfl); (case hr => first | (go_simp; done) | (go_simp; rfl)); intro w7006 hw; have n0_ : Aside0 (Kd.R k112 112 w7006 w.heap.size (fun _ => True) (.slice Ao5001 x10_6.length co5001) x10_6) := ⟨(by rw [hw]; exact (by (with_reducible repeat (first | apply Kd.R_alloc | apply Kd.R_drewN | apply Kd.R_drew)); exact Kd.R_mono (Kd.R_far (p := ⟨gb124, 1, none⟩) (Kd.R_types HO_10.out BK124.out (by decide)) (fun _ hk => hk.2) (.slice Ao7004 t125.length co7004)) (fun _ hk => trivial)))⟩; have n1_ : Aside0 (Kd.S k35 35 w7006 w.heap.size (fun k_ => some k_ ≠ (.slice Ao7002 x125001_6.length co7002 : Value).ownBlock ∧ some k_ ≠ (.slice Ao7004 t125.length co7004 : Value).ownBlock ∧ k_ ≠ gb124) u13 x13_4) := ⟨(by rw [hw]; exact (by (with_reducible repeat (first | apply Kd.S_alloc | apply Kd.S_drewN | apply Kd.S_drew)); exact Kd.S_mono (Kd.S_far (p := ⟨gb124, 1, none⟩) (Kd.S_mono HO_13.out (fun k_ hk => (⟨hk, hk.1.2⟩ : _ ∧ k_ ≠ gb124))) (fun _ hk => hk.2) (.slice Ao7004 t125.length co7004)) (fun _ hk => ⟨hk.1.1.1, ⟨hk.1.2, hk.1.1.2⟩⟩)))⟩; have n2_ : Aside0 (Kd.R (Kd.int .i64) 2 w7006 w.heap.size (fun k_ => some k_ ≠ (.slice Ao7004 t125.length co7004 : Value).ownBlock) (.slice Ao7002 x125001_6.length co7002) x125001_6) := ⟨(by rw [hw]; exact (by (with_reducible repeat (first | apply Kd.R_alloc | apply Kd.R_drewN | apply Kd.R_drew)); exact Kd.R_mono (Kd.R_far (p := ⟨gb124, 1, none⟩) (Kd.R_types HO_125001.out BK124.out (by decide)) (fun _ hk => hk.2) (.slice Ao7004 t125.length co7004)) (fun _ hk => hk.1.2)))⟩; have n3_ : Aside0 (Kd.R (Kd.int .i64) 2 w7006 w.heap.size (fun k_ => some k_ ≠ (.slice Ao7002 x125001_6.length co7002 : Value).ownBlock) (.slice Ao7004 t125.length co7004) t125) := ⟨(by rw [hw]; exact (by (with_reducible repeat (first | apply Kd.R_alloc | apply Kd.R_drewN | apply Kd.R_drew)); exact Kd.R_mono (Kd.R_far (p := ⟨gb124, 1, none⟩) (Kd.R_types HO127.out BK124.out (by decide)) (fun _ hk => hk.2) (.slice Ao7004 t125.length co7004)) (fun _ hk => hk.1.2)))⟩; have n4_ : Aside0 (w7006.heap[gb124]? = some (.cells #[.bool bL6004, .slice Ao7004 t125.length co7004] 35 (0, 0))) := ⟨(by rw [hw]; exact (by (with_reducible repeat (first | refine blk_drewN ?_ _ | refine blk_drew ?_ | refine blk_alloc ?_ _)); refine blk_put (cs := #[.bool bL6004, .slice Ao7002 x125001_6.length co7002]) ?_ 1 _ rfl; (with_reducible repeat (first | refine blk_drewN ?_ _ | refine blk_drew ?_ | refine blk_alloc ?_ _)); exact BK124.out))⟩; have n5_ : Aside0 (Below w.heap.size w w7006) := ⟨(by rw [hw]; exact wB)⟩; clear hw; clear HO_10; clear HO_13; clear HO_125001; clear HO127; clear BK124; clear HB; have HO_10 := n0_; have HO_13 := n1_; have HO_125001 := n2_; have HO127 := n3_; have BK124 := n4_; have HB := n5_; clear n0_ n1_ n2_ n3_ n4_ n5_; obtain ⟨⟨hcz7007_0, hcz7007_1⟩, hfz7007_0, hfz7007_1⟩ := cells2 BK124.out) | ((with_reducible refine gate_builtin (b := .append) (xs := #[.tmp 135, .tmp 137]) rfl ?_); (try (refine gate_guard (by rfl) ?_; dsimp only)); at_builtin; refine Kd.S_append k35 (w0 := w) w.heap.size rfl (.tmp 135) (.tmp 137) 30 35 (.agg #[(.bool false), (.slice none 0 0)]) 32 rfl Try.underlying30 info35 rfl (by decide) (by omega) u13 x13_4 (⟨bL6004, t125⟩ : S35) [.bool bL6004, .slice Ao7004 t125.length co7004] (fun k_ => some k_ ≠ (.slice Ao7002 x125001_6.length co7002 : Value).ownBlock ∧ k_ ≠ gb124) (fun k_ => some k_ = (.slice Ao7004 t125.length co7004 : Value).ownBlock) rfl rfl ?aP (fun k_ hk_ => ((Kd.R_mono (ok' := fun k_ => ((fun k_ => some k_ ≠ (.slice Ao7002 x125001_6.length co7002 : Value).ownBlock ∧ k_ ≠ gb124)) k_ ∧ some k_ ≠ (u13 : Value).ownBlock) (Kd.R_types (Kd.R_apart' (HO127.out) (Kd.S_typed HO_13.out) (by decide)) BK124.out (by decide)) (fun k_ hk => ⟨⟨hk.1.1, hk.2⟩, hk.1.2⟩))).1 k_ hk_.symm) ?aF ?aO ?aB ?aS ?aL ?_; (case aP => exact k35_mkM _ _ _ (⟨bL6004, t125⟩ : S35) (Kd.R_mono (Kd.R_tight rfl (Kd.R_mono (ok' := fun k_ => ((fun k_ => some k_ ≠ (.slice Ao7002 x125001_6.length co7002 : Value).ownBlock ∧ k_ ≠ gb124)) k_ ∧ some k_ ≠ (u13 : Value).ownBlock) (Kd.R_types (Kd.R_apart' (HO127.out) (Kd.S_typed HO_13.out) (by decide)) BK124.out (by decide)) (fun k_ hk => ⟨⟨hk.1.1, hk.2⟩, hk.1.2⟩))) (fun _ h_ => h_))); (case aB => exact wB); (case aF => exact (fun k_ hk => ⟨Kd.fresh' (Kd.R_lt (Rh HO_125001)) k_ hk, Kd.freshB (Bh BK124) k_ hk⟩)); (case aO => exact (Kd.S_mono (Sh HO_13) (fun k_ hk => ⟨⟨hk.1, hk.2.2⟩, fun e_ => hk.2.1 e_⟩))); (case aS => exact (below_size wB)); (case aL => have := LMc6016.out; omega); intro v129 w7008 ho hb hg hat; rw [← Ny128.out] at ho; have n0_ := Aside0.mk (Kd.R_over' (Rh HO_10) (Kd.S_typed (Sh HO_13)) (by decide) hg); have n1_ := Aside0.mk (Kd.R_over' (Rh HO_125001) (Kd.S_typed (Sh HO_13)) (by decide) hg); have n2_ := Aside0.mk (blk_grown (Bh BK124) hg (Kd.S_away HO_13.out (fun _ hk => hk.2.2))); have n3_ := Aside0.mk (hb); have n4_ := Aside0.mk (ho); clear HO_10; clear HO_125001; clear BK124; clear HB; clear HO_13; clear HO127; have HO_10 := n0_; have HO_125001 := n1_; have BK124 := n2_; have HB := n3_; have HO130 := n4_; clear n0_ n1_ n2_ n3_ n4_; clear ho hb hg hat))
 (try simp only [← hl10_6])
 go_roundg k6
 case measure => have := HJ4.out; have := HK2.out; have := HJ2006.out; have := HK4.out; have := HK5.out; have := HK6.out; omega
 case rel => exact ⟨(x10_6), (y128), (wrap64 (x74_4 + 1)), (by first | rfl | (simp; done) | (simp [*]; done)), H', ⟨by have := HJ4.out; have := HK2.out; have := HJ2006.out; have := HK4.out; have := HK5.out; have := HK6.out; omega⟩, ⟨by (try simp only [hl10_6]); (with_reducible repeat (first | apply Kd.R_alloc | apply Kd.R_drewN | apply Kd.R_drew)); exact HO_10.out⟩, ⟨by (try simp only [hl10_6]); (with_reducible repeat (first | apply Kd.S_alloc | apply Kd.S_drewN | apply Kd.S_drew)); exact Kd.S_mono HO130.out (fun _ hk => trivial)⟩, ⟨wB⟩⟩
 }
 }
 )
 }
 }
 )
 }
 {
 rw [if_neg c4001] at H
 have c4001b0 : decide (x74_4 < a3) = false := decide_eq_false c4001
 clear c4001
 simp only [Option.some.injEq, Prod.mk.injEq] at H
 obtain ⟨rfl, rfl⟩ := H
 go_wp2
 go_ret2
 exact ⟨_, by first | rfl | (simp [errW_none, errW_some] <;> rfl) | (simp [*, errW_none, errW_some] <;> rfl), by (with_reducible repeat (first | apply Kd.S_alloc | apply Kd.S_drewN | apply Kd.S_drew)); exact HO_13.out, wB⟩
 }
 }
 )
 }
 }
 )
 }
 }
 )
 }
 }
 )

end Go.Proofs.Ytkfbcmbemihbnaa.PFnFair
