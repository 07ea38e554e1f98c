-- Written for this claim by a program of this session (wip/mkprint.py: the print, turned at a few places). Not trusted: Lean checks it.
import Derived.Test.YtkfbcmbemihbnaaPFnExactSharex0
import Derived.Test.YtkfbcmbemihbnaaPFnExactSharex1
namespace Go.Proofs.Ytkfbcmbemihbnaa.PFnExactShare
open Go.RowKit Go.Proofs.YtkfbcmbemihbnaaW.PrintWords Go.Proofs.YtkfbcmbemihbnaaW.PrintLast Go.Proofs.YtkfbcmbemihbnaaW.PrintMore
attribute [local go_sem] max2_int min2_int max_two min_two max_three min_three max_four min_four   -- for this text's walks alone
set_option linter.unusedVariables false
set_option linter.unusedSimpArgs false

/-! ### impl_Share: function 16 -/
mutual
def impl_Share.j0 : Nat → Int → Int → List Int → Int → Bool → Option ((List (S35)) × Int)
  | 0, _, _, _, _, _ => none
  | k + 1, x0, x1, x2, x3, x41 => if x41 = true then (some (([] : List (S35)), 1)) else (impl_Share.l0 k x0 x1 x3 ([] : List (S112)) x2 (x2.length : Int) 0)
def impl_Share.l0 : Nat → Int → Int → Int → List (S112) → List Int → Int → Int → Option ((List (S35)) × Int)
  | 0, _, _, _, _, _, _, _ => none
  | k + 1, x0, x1, x3, x10, x42, x43, x44 => if x44 < x43 then (if 0 ≤ x44 then (if x44 < (x42.length : Int) then (if (rd x42 x44) < (wrap64 (2 * x0)) then (some (([] : List (S35)), 1)) else (if (rd x42 x44) > 1073741824 then (some (([] : List (S35)), 1)) else (if x10.length < 4398046511104 then (impl_Share.l0 k x0 x1 x3 (x10 ++ [(⟨x0, rd x42 x44, wrap64 (2 * x0), 0⟩ : S112)]) x42 x43 (wrap64 (x44 + 1))) else (none)))) else (none)) else (none)) else (if (x10.length : Int) < 1 then (impl_Share.j2 k x1 x3 x10 true) else (impl_Share.j2 k x1 x3 x10 (decide ((x10.length : Int) > 64))))
def impl_Share.j2 : Nat → Int → Int → List (S112) → Bool → Option ((List (S35)) × Int)
  | 0, _, _, _, _ => none
  | k + 1, x1, x3, x10, x72 => if x72 = true then (some (([] : List (S35)), 8)) else (impl_Share.l1 k x1 x10 ([] : List (S35)) x3 0)
def impl_Share.l1 : Nat → Int → List (S112) → List (S35) → Int → Int → Option ((List (S35)) × Int)
  | 0, _, _, _, _, _ => none
  | k + 1, x1, x10, x13, x73, x74 => if x74 < x73 then (impl_Share.l2 k x1 x10 x13 0 x73 x74 (x10.length : Int) 0) else (some (x13, 0))
def impl_Share.l2 : Nat → Int → List (S112) → List (S35) → Int → Int → Int → Int → Int → Option ((List (S35)) × Int)
  | 0, _, _, _, _, _, _, _, _ => none
  | k + 1, x1, x10, x13, x14, x73, x74, x77, x78 => if x78 < x77 then (if 0 ≤ x78 then (if x78 < (x10.length : Int) then (impl_Share.l2 k x1 x10 x13 (wrap64 (x14 + ((rd_T112 x10 x78).f1))) x73 x74 x77 (wrap64 (x78 + 1))) else (none)) else (none)) else (impl_Share.l3 k x1 x10 x13 x73 x74 (x10.length : Int) 0 (decide (x14 > x1)) ([] : List Int))
def impl_Share.l3 : Nat → Int → List (S112) → List (S35) → Int → Int → Int → Int → Bool → List Int → Option ((List (S35)) × Int)
  | 0, _, _, _, _, _, _, _, _, _ => none
  | k + 1, x1, x10, x13, x73, x74, x92, x93, x121000, x121001 => if x93 < x92 then (if 0 ≤ x93 then (if x93 < (x10.length : Int) then (if x121000 = true then ((impl_CongLoss.f ((rd_T112 x10 x93).f0) ((rd_T112 x10 x93).f1) ((rd_T112 x10 x93).f2) ((rd_T112 x10 x93).f3) ((rd_T112 x10 x93).f1)).bind fun bt129 => ((some (x10.set (x93 : Int).toNat (⟨bt129.1, bt129.2.1, bt129.2.2.1, bt129.2.2.2.1⟩ : S112) : List (S112))).bind fun y134 => (if x121001.length < 17592186044416 then (impl_Share.l3 k x1 y134 x13 x73 x74 x92 (wrap64 (x93 + 1)) x121000 (x121001 ++ [(rd_T112 y134 x93).f1])) else (none)))) else ((impl_CongAck.f k ((rd_T112 x10 x93).f0) ((rd_T112 x10 x93).f1) ((rd_T112 x10 x93).f2) ((rd_T112 x10 x93).f3) ((rd_T112 x10 x93).f1)).bind fun bt139 => ((some (x10.set (x93 : Int).toNat (⟨bt139.1, bt139.2.1, bt139.2.2.1, bt139.2.2.2.1⟩ : S112) : List (S112))).bind fun y144 => (if x121001.length < 17592186044416 then (impl_Share.l3 k x1 y144 x13 x73 x74 x92 (wrap64 (x93 + 1)) x121000 (x121001 ++ [(rd_T112 y144 x93).f1])) else (none))))) else (none)) else (none)) else ((slices_Clone_int64_int64.f x121001).bind fun t121 => (if x13.length < 4398046511104 then (impl_Share.l1 k x1 x10 (x13 ++ [(⟨x121000, t121⟩ : S35)]) x73 (wrap64 (x74 + 1))) else (none)))
end
def impl_Share.f (k : Nat) (a0 : Int) (a1 : Int) (l2 : List Int) (a3 : Int) : Option ((List (S35)) × Int) := if a0 < 1 then (impl_Share.j0 k a0 a1 l2 a3 true) else (if a0 > 65535 then (impl_Share.j0 k a0 a1 l2 a3 true) else (if a1 < 1 then (impl_Share.j0 k a0 a1 l2 a3 true) else (if a1 > 1073741824 then (impl_Share.j0 k a0 a1 l2 a3 true) else (if a3 < 0 then (impl_Share.j0 k a0 a1 l2 a3 true) else (impl_Share.j0 k a0 a1 l2 a3 (decide (a3 > 2000)))))))
theorem impl_Share.mono_l : ∀ k, (∀ y0 y1 y2 y3 y4, LeO (impl_Share.j0 k y0 y1 y2 y3 y4) (impl_Share.j0 (k + 1) y0 y1 y2 y3 y4)) ∧ (∀ y0 y1 y2 y3 y4 y5 y6, LeO (impl_Share.l0 k y0 y1 y2 y3 y4 y5 y6) (impl_Share.l0 (k + 1) y0 y1 y2 y3 y4 y5 y6)) ∧ (∀ y0 y1 y2 y3, LeO (impl_Share.j2 k y0 y1 y2 y3) (impl_Share.j2 (k + 1) y0 y1 y2 y3)) ∧ (∀ y0 y1 y2 y3 y4, LeO (impl_Share.l1 k y0 y1 y2 y3 y4) (impl_Share.l1 (k + 1) y0 y1 y2 y3 y4)) ∧ (∀ y0 y1 y2 y3 y4 y5 y6 y7, LeO (impl_Share.l2 k y0 y1 y2 y3 y4 y5 y6 y7) (impl_Share.l2 (k + 1) y0 y1 y2 y3 y4 y5 y6 y7)) ∧ (∀ y0 y1 y2 y3 y4 y5 y6 y7 y8, LeO (impl_Share.l3 k y0 y1 y2 y3 y4 y5 y6 y7 y8) (impl_Share.l3 (k + 1) y0 y1 y2 y3 y4 y5 y6 y7 y8))
  | 0 => ⟨fun _ _ _ _ _ r h => by simp [impl_Share.j0] at h, fun _ _ _ _ _ _ _ r h => by simp [impl_Share.l0] at h, fun _ _ _ _ r h => by simp [impl_Share.j2] at h, fun _ _ _ _ _ r h => by simp [impl_Share.l1] at h, fun _ _ _ _ _ _ _ _ r h => by simp [impl_Share.l2] at h, fun _ _ _ _ _ _ _ _ _ r h => by simp [impl_Share.l3] at h⟩
  | k + 1 => by
    obtain ⟨ih0, ih1, ih2, ih3, ih4, ih5⟩ := impl_Share.mono_l k
    refine ⟨?_, ?_, ?_, ?_, ?_, ?_⟩
    · intro y0 y1 y2 y3 y4
      unfold impl_Share.j0
      repeat' first
      | (with_reducible exact ih0 _ _ _ _ _)
      | (with_reducible exact ih1 _ _ _ _ _ _ _)
      | (with_reducible exact ih2 _ _ _ _)
      | (with_reducible exact ih3 _ _ _ _ _)
      | (with_reducible exact ih4 _ _ _ _ _ _ _ _)
      | (with_reducible exact ih5 _ _ _ _ _ _ _ _ _)
      | (with_reducible exact impl_CongAck.mono _ _ _ _ _ _)
      | (with_reducible exact LeO.refl _)
      | (with_reducible exact LeO.none _)
      | (with_reducible refine LeO.ite ?_ ?_)
      | (with_reducible refine LeO.bind ?_ (fun _ => ?_))
      | exact ih0 _ _ _ _ _
      | exact ih1 _ _ _ _ _ _ _
      | exact ih2 _ _ _ _
      | exact ih3 _ _ _ _ _
      | exact ih4 _ _ _ _ _ _ _ _
      | exact ih5 _ _ _ _ _ _ _ _ _
      | exact impl_CongAck.mono _ _ _ _ _ _
      | exact LeO.none _
      | refine LeO.ite ?_ ?_
      | refine LeO.bind ?_ (fun _ => ?_)
    · intro y0 y1 y2 y3 y4 y5 y6
      unfold impl_Share.l0
      repeat' first
      | (with_reducible exact ih0 _ _ _ _ _)
      | (with_reducible exact ih1 _ _ _ _ _ _ _)
      | (with_reducible exact ih2 _ _ _ _)
      | (with_reducible exact ih3 _ _ _ _ _)
      | (with_reducible exact ih4 _ _ _ _ _ _ _ _)
      | (with_reducible exact ih5 _ _ _ _ _ _ _ _ _)
      | (with_reducible exact impl_CongAck.mono _ _ _ _ _ _)
      | (with_reducible exact LeO.refl _)
      | (with_reducible exact LeO.none _)
      | (with_reducible refine LeO.ite ?_ ?_)
      | (with_reducible refine LeO.bind ?_ (fun _ => ?_))
      | exact ih0 _ _ _ _ _
      | exact ih1 _ _ _ _ _ _ _
      | exact ih2 _ _ _ _
      | exact ih3 _ _ _ _ _
      | exact ih4 _ _ _ _ _ _ _ _
      | exact ih5 _ _ _ _ _ _ _ _ _
      | exact impl_CongAck.mono _ _ _ _ _ _
      | exact LeO.none _
      | refine LeO.ite ?_ ?_
      | refine LeO.bind ?_ (fun _ => ?_)
    · intro y0 y1 y2 y3
      unfold impl_Share.j2
      repeat' first
      | (with_reducible exact ih0 _ _ _ _ _)
      | (with_reducible exact ih1 _ _ _ _ _ _ _)
      | (with_reducible exact ih2 _ _ _ _)
      | (with_reducible exact ih3 _ _ _ _ _)
      | (with_reducible exact ih4 _ _ _ _ _ _ _ _)
      | (with_reducible exact ih5 _ _ _ _ _ _ _ _ _)
      | (with_reducible exact impl_CongAck.mono _ _ _ _ _ _)
      | (with_reducible exact LeO.refl _)
      | (with_reducible exact LeO.none _)
      | (with_reducible refine LeO.ite ?_ ?_)
      | (with_reducible refine LeO.bind ?_ (fun _ => ?_))
      | exact ih0 _ _ _ _ _
      | exact ih1 _ _ _ _ _ _ _
      | exact ih2 _ _ _ _
      | exact ih3 _ _ _ _ _
      | exact ih4 _ _ _ _ _ _ _ _
      | exact ih5 _ _ _ _ _ _ _ _ _
      | exact impl_CongAck.mono _ _ _ _ _ _
      | exact LeO.none _
      | refine LeO.ite ?_ ?_
      | refine LeO.bind ?_ (fun _ => ?_)
    · intro y0 y1 y2 y3 y4
      unfold impl_Share.l1
      repeat' first
      | (with_reducible exact ih0 _ _ _ _ _)
      | (with_reducible exact ih1 _ _ _ _ _ _ _)
      | (with_reducible exact ih2 _ _ _ _)
      | (with_reducible exact ih3 _ _ _ _ _)
      | (with_reducible exact ih4 _ _ _ _ _ _ _ _)
      | (with_reducible exact ih5 _ _ _ _ _ _ _ _ _)
      | (with_reducible exact impl_CongAck.mono _ _ _ _ _ _)
      | (with_reducible exact LeO.refl _)
      | (with_reducible exact LeO.none _)
      | (with_reducible refine LeO.ite ?_ ?_)
      | (with_reducible refine LeO.bind ?_ (fun _ => ?_))
      | exact ih0 _ _ _ _ _
      | exact ih1 _ _ _ _ _ _ _
      | exact ih2 _ _ _ _
      | exact ih3 _ _ _ _ _
      | exact ih4 _ _ _ _ _ _ _ _
      | exact ih5 _ _ _ _ _ _ _ _ _
      | exact impl_CongAck.mono _ _ _ _ _ _
      | exact LeO.none _
      | refine LeO.ite ?_ ?_
      | refine LeO.bind ?_ (fun _ => ?_)
    · intro y0 y1 y2 y3 y4 y5 y6 y7
      unfold impl_Share.l2
      repeat' first
      | (with_reducible exact ih0 _ _ _ _ _)
      | (with_reducible exact ih1 _ _ _ _ _ _ _)
      | (with_reducible exact ih2 _ _ _ _)
      | (with_reducible exact ih3 _ _ _ _ _)
      | (with_reducible exact ih4 _ _ _ _ _ _ _ _)
      | (with_reducible exact ih5 _ _ _ _ _ _ _ _ _)
      | (with_reducible exact impl_CongAck.mono _ _ _ _ _ _)
      | (with_reducible exact LeO.refl _)
      | (with_reducible exact LeO.none _)
      | (with_reducible refine LeO.ite ?_ ?_)
      | (with_reducible refine LeO.bind ?_ (fun _ => ?_))
      | exact ih0 _ _ _ _ _
      | exact ih1 _ _ _ _ _ _ _
      | exact ih2 _ _ _ _
      | exact ih3 _ _ _ _ _
      | exact ih4 _ _ _ _ _ _ _ _
      | exact ih5 _ _ _ _ _ _ _ _ _
      | exact impl_CongAck.mono _ _ _ _ _ _
      | exact LeO.none _
      | refine LeO.ite ?_ ?_
      | refine LeO.bind ?_ (fun _ => ?_)
    · intro y0 y1 y2 y3 y4 y5 y6 y7 y8
      unfold impl_Share.l3
      repeat' first
      | (with_reducible exact ih0 _ _ _ _ _)
      | (with_reducible exact ih1 _ _ _ _ _ _ _)
      | (with_reducible exact ih2 _ _ _ _)
      | (with_reducible exact ih3 _ _ _ _ _)
      | (with_reducible exact ih4 _ _ _ _ _ _ _ _)
      | (with_reducible exact ih5 _ _ _ _ _ _ _ _ _)
      | (with_reducible exact impl_CongAck.mono _ _ _ _ _ _)
      | (with_reducible exact LeO.refl _)
      | (with_reducible exact LeO.none _)
      | (with_reducible refine LeO.ite ?_ ?_)
      | (with_reducible refine LeO.bind ?_ (fun _ => ?_))
      | exact ih0 _ _ _ _ _
      | exact ih1 _ _ _ _ _ _ _
      | exact ih2 _ _ _ _
      | exact ih3 _ _ _ _ _
      | exact ih4 _ _ _ _ _ _ _ _
      | exact ih5 _ _ _ _ _ _ _ _ _
      | exact impl_CongAck.mono _ _ _ _ _ _
      | exact LeO.none _
      | refine LeO.ite ?_ ?_
      | refine LeO.bind ?_ (fun _ => ?_)
theorem impl_Share.mono : ∀ a0 a1 a2 a3 k, LeO (impl_Share.f k a0 a1 a2 a3) (impl_Share.f (k + 1) a0 a1 a2 a3) := by
 intro a0 a1 a2 a3 k
 obtain ⟨ih0, ih1, ih2, ih3, ih4, ih5⟩ := impl_Share.mono_l k
 unfold impl_Share.f
 repeat' first
     | (with_reducible exact ih0 _ _ _ _ _)
     | (with_reducible exact ih1 _ _ _ _ _ _ _)
     | (with_reducible exact ih2 _ _ _ _)
     | (with_reducible exact ih3 _ _ _ _ _)
     | (with_reducible exact ih4 _ _ _ _ _ _ _ _)
     | (with_reducible exact ih5 _ _ _ _ _ _ _ _ _)
     | (with_reducible exact impl_CongAck.mono _ _ _ _ _ _)
     | (with_reducible exact LeO.refl _)
     | (with_reducible exact LeO.none _)
     | (with_reducible refine LeO.ite ?_ ?_)
     | (with_reducible refine LeO.bind ?_ (fun _ => ?_))
     | exact ih0 _ _ _ _ _
     | exact ih1 _ _ _ _ _ _ _
     | exact ih2 _ _ _ _
     | exact ih3 _ _ _ _ _
     | exact ih4 _ _ _ _ _ _ _ _
     | exact ih5 _ _ _ _ _ _ _ _ _
     | exact impl_CongAck.mono _ _ _ _ _ _
     | exact LeO.none _
     | refine LeO.ite ?_ ?_
     | refine LeO.bind ?_ (fun _ => ?_)
def impl_Share.T29 : Bool × List (List Nat × List Nat) := (true, [([], []), ([0], [0]), ([], []), ([], []), ([2, 3], [2, 3]), ([4], [4]), ([5], [5]), ([6], [6]), ([1, 7], [1, 7]), ([0, 1, 2, 3, 4, 5, 6, 7, 8], []), ([9, 8, 8, 0, 1, 2, 3, 4, 5, 6, 7, 8], [8, 9])])
def impl_Share.B29 : List Nat := [0, 1, 0, 0, 12, 28, 60, 124, 255, 511, 1023]
theorem impl_Share.tab29 : rtab .any (opsOf Try.f16 29) = impl_Share.T29 := by kernel_rfl
theorem impl_Share.bits29 : waitsOk impl_Share.T29.2 impl_Share.B29 = true := by kernel_rfl
set_option maxHeartbeats 60000000 in
set_option maxRecDepth 100000 in
theorem impl_Share.calls (k : Nat) (a0 : Int) (a1 : Int) (A2 : Option Addr) (c2 : Nat) (l2 : List Int) (a3 : Int) (r1 : List (S35)) (r2 : Int) (w : World) (hr2 : Kd.C (Kd.int .i64) w A2 l2.length l2) (hc2 : l2.length ≤ c2) (h : impl_Share.f k a0 a1 l2 a3 = some (r1, r2)) :
 Calls Try.prog 16 #[.int .i64 a0, .int .i64 a1, .slice A2 l2.length c2, .int .i64 a3] w fun e w' => ∃ v0_ : Value, e = .returned (.tuple #[v0_, .int .i64 r2]) ∧ Kd.S k35 35 w' w.heap.size (fun _ => True) v0_ r1 ∧ Below w.heap.size w w' := by
 have hu112 := Try.underlying112
 have hu35 := Try.underlying35
 have HR2 := Aside0.mk hr2
 have HC2 := Aside0.mk hc2
 clear hr2 hc2
 have HB := Aside0.mk (Below.refl w.heap.size w)
 have H : (if a0 < 1 then (impl_Share.j0 k a0 a1 l2 a3 true) else (if a0 > 65535 then (impl_Share.j0 k a0 a1 l2 a3 true) else (if a1 < 1 then (impl_Share.j0 k a0 a1 l2 a3 true) else (if a1 > 1073741824 then (impl_Share.j0 k a0 a1 l2 a3 true) else (if a3 < 0 then (impl_Share.j0 k a0 a1 l2 a3 true) else (impl_Share.j0 k a0 a1 l2 a3 (decide (a3 > 2000)))))))) = some (r1, r2) := h
 clear h
 have HC5 := Aside0.mk H
 clear H
 go_enter Try.func16, Try.ntmps16
 go_upto_region 1 with (fail)
 go_cut [41] (fun v41 wc => ∃ (kq : Nat) (x41_4 : Bool), v41 = .bool x41_4 ∧ Aside0 (impl_Share.j0 kq a0 a1 l2 a3 x41_4 = some (r1, r2)) ∧ Aside0 (kq ≤ k) ∧ Aside0 (Below w.heap.size w wc))
 case first => (
 have H := HC5.out
 clear HC5
 by_cases c1001 : a0 < 1
 rw [if_pos c1001] at H
 have c1001b0 : decide (a0 < 1) = true := decide_eq_true c1001
 clear c1001
 (first | rw [c1001b0] | (simp only [i64_w, i32_w]; rw [c1001b0]) | skip)
 have H' := Aside0.mk H
 clear H
 rotate_left
 rw [if_neg c1001] at H
 have c1001b0 : decide (a0 < 1) = false := decide_eq_false c1001
 clear c1001
 (first | rw [c1001b0] | (simp only [i64_w, i32_w]; rw [c1001b0]) | skip)
 by_cases c1002 : a0 > 65535
 rw [if_pos c1002] at H
 have c1002b0 : decide (65535 < a0) = true := decide_eq_true c1002
 clear c1002
 have H' := Aside0.mk H
 clear H
 rotate_left
 rw [if_neg c1002] at H
 have c1002b0 : decide (65535 < a0) = false := decide_eq_false c1002
 clear c1002
 by_cases c1003 : a1 < 1
 rw [if_pos c1003] at H
 have c1003b0 : decide (a1 < 1) = true := decide_eq_true c1003
 clear c1003
 have H' := Aside0.mk H
 clear H
 rotate_left
 rw [if_neg c1003] at H
 have c1003b0 : decide (a1 < 1) = false := decide_eq_false c1003
 clear c1003
 by_cases c1004 : a1 > 1073741824
 rw [if_pos c1004] at H
 have c1004b0 : decide (1073741824 < a1) = true := decide_eq_true c1004
 clear c1004
 have H' := Aside0.mk H
 clear H
 rotate_left
 rw [if_neg c1004] at H
 have c1004b0 : decide (1073741824 < a1) = false := decide_eq_false c1004
 clear c1004
 by_cases c1005 : a3 < 0
 rw [if_pos c1005] at H
 have c1005b0 : decide (a3 < 0) = true := decide_eq_true c1005
 clear c1005
 have H' := Aside0.mk H
 clear H
 rotate_left
 rw [if_neg c1005] at H
 have c1005b0 : decide (a3 < 0) = false := decide_eq_false c1005
 clear c1005
 have H' := Aside0.mk H
 clear H
 rotate_left
 all_goals (
 go_wp2
 go_meet
 )
 iterate 5 (
 focus (
 case rel => exact ⟨_, (true), (by first | rfl | (simp; done) | (simp [*]; done)), H', ⟨by first | omega | exact Nat.le_refl _⟩, ⟨wB⟩⟩
 )
 )
 {
 case rel => exact ⟨_, (decide (a3 > 2000)), (by first | rfl | (simp; done) | (simp [*]; done)), H', ⟨by first | omega | exact Nat.le_refl _⟩, ⟨wB⟩⟩
 }
 )
 case rest => (
 clear HC5
 try clear c1001
 try clear c1001b0
 try clear c1002
 try clear c1002b0
 try clear c1003
 try clear c1003b0
 try clear c1004
 try clear c1004b0
 try clear c1005
 try clear c1005b0
 obtain ⟨kq, x41_4, rfl, HA, HJ4, HB⟩ := hcut
 cases kq with
 | zero => exact absurd HA.out (by simp [impl_Share.j0])
 | succ kj4 => {
 have H := HA.out
 clear HA
 simp only [impl_Share.j0] at H
 by_cases c1006 : x41_4 = true
 {
 subst c1006
 have H1 : (some (([] : List (S35)), 1)) = some (r1, r2) := by rw [if_pos rfl] at H; exact H
 clear H
 have H := H1
 clear H1
 simp only [Option.some.injEq, Prod.mk.injEq] at H
 obtain ⟨rfl, rfl⟩ := H
 go_wp2
 go_ret2
 exact ⟨_, by first | rfl | (simp [errW_none, errW_some] <;> rfl) | (simp [*, errW_none, errW_some] <;> rfl), by first | exact Kd.S_nil _ _ _ _ _ | exact Kd.N_nil _ _ _ _ _ | exact Kd.V_nil _ _ _ _ _ | exact Kd.Q_nil _ _ _ _ _ | exact Kd.R_nil _ _ _ _ _, wB⟩
 }
 {
 replace c1006 := Bool.eq_false_iff.mpr c1006
 subst c1006
 have H1 : (impl_Share.l0 kj4 a0 a1 a3 ([] : List (S112)) l2 (l2.length : Int) 0) = some (r1, r2) := by rw [if_neg (show ¬ (false = true) by decide)] at H; exact H
 clear H
 have H := H1
 clear H1
 have H' := Aside0.mk H
 clear H
 go_wp2
 go_loopg [10, 44] kj4 (fun kq v10 v44 w' => ∃ (x10_2 : List (S112)) (x44_2 : Int), v44 = .int .i64 x44_2 ∧ Aside0 (impl_Share.l0 kq a0 a1 a3 x10_2 l2 (l2.length : Int) x44_2 = some (r1, r2)) ∧ Aside0 (kq ≤ kj4) ∧ Aside0 (Kd.R k112 112 w' w.heap.size (fun _ => True) v10 x10_2) ∧ Aside0 (Below w.heap.size w w'))
 case atStart => exact ⟨(([] : List (S112))), (0), (by first | rfl | (simp; done) | (simp [*]; done)), H', ⟨Nat.le_refl _⟩, ⟨by first | exact Kd.R_nil _ _ _ _ _ | exact Kd.N_nil _ _ _ _ _ | exact Kd.V_nil _ _ _ _ _ | exact Kd.Q_nil _ _ _ _ _ | exact Kd.S_nil _ _ _ _ _⟩, ⟨wB⟩⟩
 case round => (
 clear H'
 try clear c1001
 try clear c1001b0
 try clear c1002
 try clear c1002b0
 try clear c1003
 try clear c1003b0
 try clear c1004
 try clear c1004b0
 try clear c1005
 try clear c1005b0
 try clear c1006
 obtain ⟨x10_2, x44_2, rfl, HA, HK2, HO_10, HB⟩ := hrel
 cases gk with
 | zero => exact absurd HA.out (by simp [impl_Share.l0])
 | succ k2 => {
 have H := HA.out
 clear HA
 simp only [impl_Share.l0] at H
 by_cases c2001 : x44_2 < (l2.length : Int)
 rw [if_pos c2001] at H
 have c2001b0 : decide (x44_2 < (l2.length : Int)) = true := decide_eq_true c2001
 clear c2001
 by_cases c2002 : 0 ≤ x44_2
 rw [if_pos c2002] at H
 have c2002b0 : decide (0 ≤ x44_2) = true := decide_eq_true c2002
 clear c2002
 by_cases c2003 : x44_2 < (l2.length : Int)
 rw [if_pos c2003] at H
 have c2003b0 : decide (x44_2 < (l2.length : Int)) = true := decide_eq_true c2003
 clear c2003
 by_cases c2004 : (rd l2 x44_2) < (wrap64 (2 * a0))
 rw [if_pos c2004] at H
 have c2004b0 : decide ((rd l2 x44_2) < (wrap64 (2 * a0))) = true := decide_eq_true c2004
 clear c2004
 simp only [Option.some.injEq, Prod.mk.injEq] at H
 obtain ⟨rfl, rfl⟩ := H
 rotate_left
 rw [if_neg c2004] at H
 have c2004b0 : decide ((rd l2 x44_2) < (wrap64 (2 * a0))) = false := decide_eq_false c2004
 clear c2004
 by_cases c2005 : (rd l2 x44_2) > 1073741824
 rw [if_pos c2005] at H
 have c2005b0 : decide (1073741824 < (rd l2 x44_2)) = true := decide_eq_true c2005
 clear c2005
 simp only [Option.some.injEq, Prod.mk.injEq] at H
 obtain ⟨rfl, rfl⟩ := H
 rotate_left
 rw [if_neg c2005] at H
 have c2005b0 : decide (1073741824 < (rd l2 x44_2)) = false := decide_eq_false c2005
 clear c2005
 by_cases c2006 : x10_2.length < 4398046511104
 rw [if_pos c2006] at H
 have LMc2006 := Aside0.mk c2006
 clear c2006
 obtain ⟨y115, hy115⟩ : ∃ y_ : List (S112), y_ = (x10_2 ++ [(⟨a0, rd l2 x44_2, wrap64 (2 * a0), 0⟩ : S112)]) := ⟨_, rfl⟩
 replace H : (impl_Share.l0 k2 a0 a1 a3 y115 l2 (l2.length : Int) (wrap64 (x44_2 + 1))) = some (r1, r2) := by first | (rw [hy115]; with_reducible exact H) | (have H2_ := (Option.bind_some _ _).symm.trans H; rw [hy115]; with_reducible exact H2_) | (have H2_ := (Option.bind_some _ _).symm.trans H; with_reducible exact H2_) | with_reducible exact H | (rw [hy115]; exact H) | exact H
 have Ny115 := Aside0.mk hy115
 clear hy115
 have H' := Aside0.mk H
 clear H
 rotate_left
 rw [if_neg c2006] at H
 exact absurd H (by simp)
 rw [if_neg c2003] at H
 exact absurd H (by simp)
 rw [if_neg c2002] at H
 exact absurd H (by simp)
 rw [if_neg c2001] at H
 have c2001b0 : decide (x44_2 < (l2.length : Int)) = false := decide_eq_false c2001
 clear c2001
 have HC2007 := Aside0.mk H
 clear H
 rotate_left
 iterate 3 (
 focus (
 have p114 : 0 ≤ (x44_2 : Int) := of_decide_eq_true (by first | (with_reducible assumption) | assumption)
 have q114 : x44_2 < (l2.length : Int) := of_decide_eq_true (by first | (with_reducible assumption) | assumption)
 obtain ⟨ad114, e114, hx114_0⟩ := Kd.at_int HR2.out x44_2 p114 q114
 cases e114
 replace hx114_0 := (HB.out.cell (World.block_lt_of_cell? w _ hx114_0)).trans hx114_0
 replace p114 := eq_true p114
 replace q114 := eq_true q114
 )
 rotate_left
 )
 rotate_right 3
 iterate 2 (
 focus (
 go_wp2
 go_ret2
 exact ⟨_, by first | rfl | (simp [errW_none, errW_some] <;> rfl) | (simp [*, errW_none, errW_some] <;> rfl), by first | exact Kd.S_nil _ _ _ _ _ | exact Kd.N_nil _ _ _ _ _ | exact Kd.V_nil _ _ _ _ _ | exact Kd.Q_nil _ _ _ _ _ | exact Kd.R_nil _ _ _ _ _, wB⟩
 )
 )
 {
 go_wp2_with (first | ((with_reducible refine gate_builtin (b := .append) (xs := #[.tmp 56, .tmp 62]) rfl ?_); (try (refine gate_guard (by rfl) ?_; dsimp only)); at_builtin; refine Kd.R_append k112 (w0 := w) w.heap.size rfl (.tmp 56) (.tmp 62) 110 112 (.agg #[(.int .i64 0), (.int .i64 0), (.int .i64 0), (.int .i64 0)]) 32 rfl Try.underlying110 info112 rfl (by decide) (by omega) u10 x10_2 (⟨a0, rd l2 x44_2, wrap64 (2 * a0), 0⟩ : S112) [.int .i64 a0, .int .i64 (rd l2 x44_2), .int .i64 (wrap64 (2 * a0)), .int .i64 0] (fun _ => True) (fun _ => False) rfl rfl ?aP (fun _ hk => hk.elim) ?aF ?aO ?aB ?aS ?aL ?_; (case aP => exact k112_mkM _ _ _ (⟨a0, rd l2 x44_2, wrap64 (2 * a0), 0⟩ : S112)); (case aB => exact wB); (case aF => exact (fun _ _ => trivial)); (case aO => exact (Rh HO_10)); (case aS => exact (below_size wB)); (case aL => have := LMc2006.out; omega); intro v116 w3001 ho hb hg hat; rw [← Ny115.out] at ho; have n0_ := Aside0.mk (hb); have n1_ := Aside0.mk (ho); clear HB; clear HO_10; have HB := n0_; have HO117 := n1_; clear n0_ n1_; clear ho hb hg hat))
 go_roundg k2
 case measure => have := HJ4.out; have := HK2.out; omega
 case rel => exact ⟨(y115), (wrap64 (x44_2 + 1)), (by first | rfl | (simp; done) | (simp [*]; done)), H', ⟨by have := HJ4.out; have := HK2.out; omega⟩, ⟨Rh HO117⟩, ⟨wB⟩⟩
 }
 {
 go_upto_region 11 with (fail)
 go_cut [72] (fun v72 wc => ∃ (kq : Nat) (x72_2006 : Bool), v72 = .bool x72_2006 ∧ Aside0 (impl_Share.j2 kq a1 a3 x10_2 x72_2006 = some (r1, r2)) ∧ Aside0 (kq ≤ k2) ∧ Aside0 (Kd.R k112 112 wc w.heap.size (fun _ => True) u10 x10_2) ∧ Aside0 (Below w.heap.size w wc))
 case first => (
 have H := HC2007.out
 clear HC2007
 by_cases c3001 : (x10_2.length : Int) < 1
 {
 rw [if_pos c3001] at H
 have c3001b0 : decide ((x10_2.length : Int) < 1) = true := decide_eq_true c3001
 have c3001b1 : decide (x10_2.length < 1) = true := decide_eq_true (by omega)
 clear c3001
 (first | rw [c3001b0] | rw [c3001b1] | (simp only [i64_w, i32_w]; rw [c3001b0]) | skip)
 have H' := Aside0.mk H
 clear H
 obtain ⟨Ao4001, co4001, eo4001⟩ := Kd.R_slice HO_10.out
 subst eo4001
 go_wp2
 go_meet
 case rel => exact ⟨_, (true), (by first | rfl | (simp; done) | (simp [*]; done)), H', ⟨by have := HJ4.out; have := HK2.out; first | omega | exact Nat.le_refl _⟩, ⟨Rh HO_10⟩, ⟨wB⟩⟩
 }
 {
 rw [if_neg c3001] at H
 have c3001b0 : decide ((x10_2.length : Int) < 1) = false := decide_eq_false c3001
 have c3001b1 : decide (x10_2.length < 1) = false := decide_eq_false (by omega)
 clear c3001
 (first | rw [c3001b0] | rw [c3001b1] | (simp only [i64_w, i32_w]; rw [c3001b0]) | skip)
 have H' := Aside0.mk H
 clear H
 obtain ⟨Ao4001, co4001, eo4001⟩ := Kd.R_slice HO_10.out
 subst eo4001
 go_wp2
 go_meet
 case rel => exact ⟨_, (decide ((x10_2.length : Int) > 64)), (by first | rfl | (simp; done) | (simp [*]; done)), H', ⟨by have := HJ4.out; have := HK2.out; first | omega | exact Nat.le_refl _⟩, ⟨Rh HO_10⟩, ⟨wB⟩⟩
 }
 )
 case rest => (
 clear HC2007
 try clear p114
 try clear q114
 try clear hx114
 try clear c1001
 try clear c1001b0
 try clear c1002
 try clear c1002b0
 try clear c1003
 try clear c1003b0
 try clear c1004
 try clear c1004b0
 try clear c1005
 try clear c1005b0
 try clear c1006
 try clear c2001
 try clear c2001b0
 try clear c2002
 try clear c2002b0
 try clear c2003
 try clear c2003b0
 try clear c2004
 try clear c2004b0
 try clear c2005
 try clear c2005b0
 try clear c2006
 try clear c3001
 try clear c3001b0
 try clear c3001b1
 try clear hx114_0
 try clear p114
 try clear q114
 obtain ⟨kq, x72_2006, rfl, HA, HJ2006, HO_10, HB⟩ := hcut
 cases kq with
 | zero => exact absurd HA.out (by simp [impl_Share.j2])
 | succ kj2006 => {
 have H := HA.out
 clear HA
 simp only [impl_Share.j2] at H
 by_cases c3002 : x72_2006 = true
 {
 subst c3002
 have H1 : (some (([] : List (S35)), 8)) = some (r1, r2) := by rw [if_pos rfl] at H; exact H
 clear H
 have H := H1
 clear H1
 simp only [Option.some.injEq, Prod.mk.injEq] at H
 obtain ⟨rfl, rfl⟩ := H
 go_wp2
 go_ret2
 exact ⟨_, by first | rfl | (simp [errW_none, errW_some] <;> rfl) | (simp [*, errW_none, errW_some] <;> rfl), by first | exact Kd.S_nil _ _ _ _ _ | exact Kd.N_nil _ _ _ _ _ | exact Kd.V_nil _ _ _ _ _ | exact Kd.Q_nil _ _ _ _ _ | exact Kd.R_nil _ _ _ _ _, wB⟩
 }
 {
 replace c3002 := Bool.eq_false_iff.mpr c3002
 subst c3002
 have H1 : (impl_Share.l1 kj2006 a1 x10_2 ([] : List (S35)) a3 0) = some (r1, r2) := by rw [if_neg (show ¬ (false = true) by decide)] at H; exact H
 clear H
 have H := H1
 clear H1
 have H' := Aside0.mk H
 clear H
 go_wp2
 go_loopg [13, 74] kj2006 (fun kq v13 v74 w' => ∃ (x10_4 : List (S112)) (x13_4 : List (S35)) (x74_4 : Int), v74 = .int .i64 x74_4 ∧ Aside0 (impl_Share.l1 kq a1 x10_4 x13_4 a3 x74_4 = some (r1, r2)) ∧ Aside0 (kq ≤ kj2006) ∧ Aside0 (Kd.R k112 112 w' w.heap.size (fun _ => True) u10 x10_4) ∧ Aside0 (Kd.S k35 35 w' w.heap.size (fun _ => True) v13 x13_4) ∧ Aside0 (Below w.heap.size w w'))
 case atStart => exact ⟨(x10_2), (([] : List (S35))), (0), (by first | rfl | (simp; done) | (simp [*]; done)), H', ⟨Nat.le_refl _⟩, ⟨Rh HO_10⟩, ⟨by first | exact Kd.S_nil _ _ _ _ _ | exact Kd.N_nil _ _ _ _ _ | exact Kd.V_nil _ _ _ _ _ | exact Kd.Q_nil _ _ _ _ _ | exact Kd.R_nil _ _ _ _ _⟩, ⟨wB⟩⟩
 case round => (
 clear H'
 try clear p114
 try clear q114
 try clear hx114
 try clear c1001
 try clear c1001b0
 try clear c1002
 try clear c1002b0
 try clear c1003
 try clear c1003b0
 try clear c1004
 try clear c1004b0
 try clear c1005
 try clear c1005b0
 try clear c1006
 try clear c2001
 try clear c2001b0
 try clear c2002
 try clear c2002b0
 try clear c2003
 try clear c2003b0
 try clear c2004
 try clear c2004b0
 try clear c2005
 try clear c2005b0
 try clear c2006
 try clear c3001
 try clear c3001b0
 try clear c3001b1
 try clear c3002
 try clear hx114_0
 try clear p114
 try clear q114
 obtain ⟨x10_4, x13_4, x74_4, rfl, HA, HK4, HO_10, HO_13, HB⟩ := hrel
 cases gk with
 | zero => exact absurd HA.out (by simp [impl_Share.l1])
 | succ k4 => {
 have H := HA.out
 clear HA
 simp only [impl_Share.l1] at H
 by_cases c4001 : x74_4 < a3
 {
 rw [if_pos c4001] at H
 have c4001b0 : decide (x74_4 < a3) = true := decide_eq_true c4001
 clear c4001
 have H' := Aside0.mk H
 clear H
 obtain ⟨Ao5001, co5001, eo5001⟩ := Kd.R_slice HO_10.out
 subst eo5001
 go_wp2
 go_loopg [14, 78] k4 (fun kq v14 v78 w' => ∃ (x14_5 : Int) (x78_5 : Int), v14 = .int .i64 x14_5 ∧ v78 = .int .i64 x78_5 ∧ Aside0 (impl_Share.l2 kq a1 x10_4 x13_4 x14_5 a3 x74_4 (x10_4.length : Int) x78_5 = some (r1, r2)) ∧ Aside0 (kq ≤ k4) ∧ Aside0 (Kd.R k112 112 w' w.heap.size (fun _ => True) (.slice Ao5001 x10_4.length co5001) x10_4) ∧ Aside0 (Kd.S k35 35 w' w.heap.size (fun _ => True) u13 x13_4) ∧ Aside0 (Below w.heap.size w w'))
 case atStart => exact ⟨(0), (0), (by first | rfl | (simp; done) | (simp [*]; done)), (by first | rfl | (simp; done) | (simp [*]; done)), H', ⟨Nat.le_refl _⟩, ⟨Rh HO_10⟩, ⟨Sh HO_13⟩, ⟨wB⟩⟩
 case round => (
 clear H'
 try clear p114
 try clear q114
 try clear hx114
 try clear c1001
 try clear c1001b0
 try clear c1002
 try clear c1002b0
 try clear c1003
 try clear c1003b0
 try clear c1004
 try clear c1004b0
 try clear c1005
 try clear c1005b0
 try clear c1006
 try clear c2001
 try clear c2001b0
 try clear c2002
 try clear c2002b0
 try clear c2003
 try clear c2003b0
 try clear c2004
 try clear c2004b0
 try clear c2005
 try clear c2005b0
 try clear c2006
 try clear c3001
 try clear c3001b0
 try clear c3001b1
 try clear c3002
 try clear c4001
 try clear c4001b0
 try clear hx114_0
 try clear p114
 try clear q114
 obtain ⟨x14_5, x78_5, rfl, rfl, HA, HK5, HO_10, HO_13, HB⟩ := hrel
 cases gk with
 | zero => exact absurd HA.out (by simp [impl_Share.l2])
 | succ k5 => {
 have H := HA.out
 clear HA
 simp only [impl_Share.l2] at H
 by_cases c5002 : x78_5 < (x10_4.length : Int)
 {
 rw [if_pos c5002] at H
 have c5002b0 : decide (x78_5 < (x10_4.length : Int)) = true := decide_eq_true c5002
 clear c5002
 by_cases c5003 : 0 ≤ x78_5
 {
 rw [if_pos c5003] at H
 have c5003b0 : decide (0 ≤ x78_5) = true := decide_eq_true c5003
 clear c5003
 by_cases c5004 : x78_5 < (x10_4.length : Int)
 {
 rw [if_pos c5004] at H
 have c5004b0 : decide (x78_5 < (x10_4.length : Int)) = true := decide_eq_true c5004
 clear c5004
 have H' := Aside0.mk H
 clear H
 have p118 : 0 ≤ (x78_5 : Int) := of_decide_eq_true (by first | (with_reducible assumption) | assumption)
 have q118 : x78_5 < (x10_4.length : Int) := of_decide_eq_true (by first | (with_reducible assumption) | assumption)
 obtain ⟨ad118, e118, hx118_0, hx118_1, hx118_2, hx118_3⟩ := at_T112 (Kd.R_reads' HO_10.out).2.2 x78_5 p118 q118
 cases e118
 replace p118 := eq_true p118
 replace q118 := eq_true q118
 go_wp2_with (first | ((with_reducible refine gate_dst (N := 16) rfl ?_); (try (refine gate_guard (by rfl) ?_; dsimp only)); refine box_event ?hg (N := 16) ?hd (cs := #[.int .i64 0, .int .i64 0, .int .i64 0, .int .i64 0]) (t := 112) ?hr ?_; (case hd => rfl); (case hg => rfl); (case hr => first | (go_simp; done) | (go_simp; rfl)); intro gb119 hg w6001 hbox hb; have n0_ := Aside0.mk (Kd.R_below (Kd.R_elderB (Rh HO_10) gb119 (Nat.le_of_eq hg.symm)) hb); have n1_ := Aside0.mk (Kd.S_below (Sh HO_13) hb); have n2_ := Aside0.mk (below_step wB hb); have n3_ := Aside0.mk (hbox); have n4_ := Aside0.mk ((by rw [hg]; exact (below_size wB) : w.heap.size ≤ gb119)); have n5_ := Aside0.mk ((by rw [hg]; exact (below_size wB) : w.heap.size ≤ gb119)); clear HO_10; clear HO_13; clear HB; have HO_10 := n0_; have HO_13 := n1_; have HB := n2_; have BK119 := n3_; have GW119 := n4_; have GE119 := n5_; clear n0_ n1_ n2_ n3_ n4_ n5_; clear hb hbox hg; obtain ⟨⟨hcz6002_0, hcz6002_1, hcz6002_2, hcz6002_3⟩, hfz6002_0, hfz6002_1, hfz6002_2, hfz6002_3⟩ := cells4 BK119.out) | ((with_reducible refine gate_store (t := 112) (p := 16) rfl ?_); (try (rw [drewN_self w6001]; generalize hq_ : World.drewN w6001 _ = w6001; have n0_ := Aside0.mk (Kd.R_at hq_ HO_10.out); have n1_ := Aside0.mk (Kd.S_at hq_ HO_13.out); have n2_ := Aside0.mk (blk_at hq_ BK119.out); have n3_ := Aside0.mk (below_at hq_ HB.out); clear hq_ HO_10 HO_13 BK119 HB; have HO_10 := n0_; have HO_13 := n1_; have BK119 := n2_; have HB := n3_; clear n0_ n1_ n2_ n3_; (try (obtain ⟨⟨hcyBK119_0, hcyBK119_1, hcyBK119_2, hcyBK119_3⟩, hfyBK119_0, hfyBK119_1, hfyBK119_2, hfyBK119_3⟩ := cells4 BK119.out)))); refine store_event (t := 112) (p := 16) (v := ?_) (w1 := ((((w6001.setCell ⟨gb119, 0, none⟩ (.int .i64 ((rd_T112 x10_4 x78_5).f0))).setCell ⟨gb119, 1, none⟩ (.int .i64 ((rd_T112 x10_4 x78_5).f1))).setCell ⟨gb119, 2, none⟩ (.int .i64 ((rd_T112 x10_4 x78_5).f2))).setCell ⟨gb119, 3, none⟩ (.int .i64 ((rd_T112 x10_4 x78_5).f3)))) ?hg ?ho ?hn ?hr ?_; (case ho => rfl); (case hg => rfl); (case hn => rfl); (case hr => first | (go_simp; done) | (go_simp; rfl)); intro w6003 hw; have n0_ : Aside0 (Kd.R k112 112 w6003 w.heap.size (fun k_ => k_ ≠ gb119) (.slice (some ad118) x10_4.length co5001) x10_4) := ⟨(by rw [hw]; exact (by (with_reducible repeat (first | apply Kd.R_alloc | apply Kd.R_drewN | apply Kd.R_drew)); exact Kd.R_mono (Kd.R_far (p := ⟨gb119, 3, none⟩) (Kd.R_far (p := ⟨gb119, 2, none⟩) (Kd.R_far (p := ⟨gb119, 1, none⟩) (Kd.R_far (p := ⟨gb119, 0, none⟩) (Kd.R_mono HO_10.out (fun k_ hk => (⟨hk, hk.2⟩ : _ ∧ k_ ≠ gb119))) (fun _ hk => hk.2) (.int .i64 ((rd_T112 x10_4 x78_5).f0))) (fun _ hk => hk.2) (.int .i64 ((rd_T112 x10_4 x78_5).f1))) (fun _ hk => hk.2) (.int .i64 ((rd_T112 x10_4 x78_5).f2))) (fun _ hk => hk.2) (.int .i64 ((rd_T112 x10_4 x78_5).f3))) (fun _ hk => hk.1.2)))⟩; have n1_ : Aside0 (Kd.S k35 35 w6003 w.heap.size (fun _ => True) u13 x13_4) := ⟨(by rw [hw]; exact (by (with_reducible repeat (first | apply Kd.S_alloc | apply Kd.S_drewN | apply Kd.S_drew)); exact Kd.S_mono (Kd.S_far (p := ⟨gb119, 3, none⟩) (Kd.S_far (p := ⟨gb119, 2, none⟩) (Kd.S_far (p := ⟨gb119, 1, none⟩) (Kd.S_far (p := ⟨gb119, 0, none⟩) (Kd.S_types HO_13.out BK119.out (by decide)) (fun _ hk => hk.2) (.int .i64 ((rd_T112 x10_4 x78_5).f0))) (fun _ hk => hk.2) (.int .i64 ((rd_T112 x10_4 x78_5).f1))) (fun _ hk => hk.2) (.int .i64 ((rd_T112 x10_4 x78_5).f2))) (fun _ hk => hk.2) (.int .i64 ((rd_T112 x10_4 x78_5).f3))) (fun _ hk => trivial)))⟩; have n2_ : Aside0 (w6003.heap[gb119]? = some (.cells #[.int .i64 ((rd_T112 x10_4 x78_5).f0), .int .i64 ((rd_T112 x10_4 x78_5).f1), .int .i64 ((rd_T112 x10_4 x78_5).f2), .int .i64 ((rd_T112 x10_4 x78_5).f3)] 112 (0, 0))) := ⟨(by rw [hw]; exact (by (with_reducible repeat (first | refine blk_drewN ?_ _ | refine blk_drew ?_ | refine blk_alloc ?_ _)); refine blk_put (cs := #[.int .i64 ((rd_T112 x10_4 x78_5).f0), .int .i64 ((rd_T112 x10_4 x78_5).f1), .int .i64 ((rd_T112 x10_4 x78_5).f2), .int .i64 0]) ?_ 3 _ rfl; (with_reducible repeat (first | refine blk_drewN ?_ _ | refine blk_drew ?_ | refine blk_alloc ?_ _)); refine blk_put (cs := #[.int .i64 ((rd_T112 x10_4 x78_5).f0), .int .i64 ((rd_T112 x10_4 x78_5).f1), .int .i64 0, .int .i64 0]) ?_ 2 _ rfl; (with_reducible repeat (first | refine blk_drewN ?_ _ | refine blk_drew ?_ | refine blk_alloc ?_ _)); refine blk_put (cs := #[.int .i64 ((rd_T112 x10_4 x78_5).f0), .int .i64 0, .int .i64 0, .int .i64 0]) ?_ 1 _ rfl; (with_reducible repeat (first | refine blk_drewN ?_ _ | refine blk_drew ?_ | refine blk_alloc ?_ _)); refine blk_put (cs := #[.int .i64 0, .int .i64 0, .int .i64 0, .int .i64 0]) ?_ 0 _ rfl; (with_reducible repeat (first | refine blk_drewN ?_ _ | refine blk_drew ?_ | refine blk_alloc ?_ _)); exact BK119.out))⟩; have n3_ : Aside0 (Below w.heap.size w w6003) := ⟨(by rw [hw]; exact wB)⟩; clear hw; clear HO_10; clear HO_13; clear BK119; clear HB; have HO_10 := n0_; have HO_13 := n1_; have BK119 := n2_; have HB := n3_; clear n0_ n1_ n2_ n3_; obtain ⟨⟨hcz6004_0, hcz6004_1, hcz6004_2, hcz6004_3⟩, hfz6004_0, hfz6004_1, hfz6004_2, hfz6004_3⟩ := cells4 BK119.out))
 go_roundg k5
 case measure => have := HJ4.out; have := HK2.out; have := HJ2006.out; have := HK4.out; have := HK5.out; omega
 case rel => exact ⟨(wrap64 (x14_5 + ((rd_T112 x10_4 x78_5).f1))), (wrap64 (x78_5 + 1)), (by first | rfl | (simp; done) | (simp [*]; done)), (by first | rfl | (simp; done) | (simp [*]; done)), H', ⟨by have := HJ4.out; have := HK2.out; have := HJ2006.out; have := HK4.out; have := HK5.out; omega⟩, ⟨Kd.R_mono (Rh HO_10) (fun _ hk => trivial)⟩, ⟨Sh HO_13⟩, ⟨wB⟩⟩
 }
 {
 rw [if_neg c5004] at H
 exact absurd H (by simp)
 }
 }
 {
 rw [if_neg c5003] at H
 exact absurd H (by simp)
 }
 }
 {
 rw [if_neg c5002] at H
 have c5002b0 : decide (x78_5 < (x10_4.length : Int)) = false := decide_eq_false c5002
 clear c5002
 have H' := Aside0.mk H
 clear H
 go_wp2_with (first | ((with_reducible refine gate_dst (N := 17) rfl ?_); (try (refine gate_guard (by rfl) ?_; dsimp only)); refine box_event ?hg (N := 17) ?hd (cs := #[.bool false, .slice none 0 0]) (t := 35) ?hr ?_; (case hd => rfl); (case hg => rfl); (case hr => first | (go_simp; done) | (go_simp; rfl)); intro gb120 hg w6001 hbox hb; have n0_ := Aside0.mk (Kd.R_below (Rh HO_10) hb); have n1_ := Aside0.mk (Kd.S_below (Kd.S_elderB (Sh HO_13) gb120 (Nat.le_of_eq hg.symm)) hb); have n2_ := Aside0.mk (below_step wB hb); have n3_ := Aside0.mk (hbox); have n4_ := Aside0.mk ((by rw [hg]; exact (below_size wB) : w.heap.size ≤ gb120)); have n5_ := Aside0.mk ((by rw [hg]; exact (below_size wB) : w.heap.size ≤ gb120)); clear HO_10; clear HO_13; clear HB; have HO_10 := n0_; have HO_13 := n1_; have HB := n2_; have BK120 := n3_; have GW120 := n4_; have GE120 := n5_; clear n0_ n1_ n2_ n3_ n4_ n5_; clear hb hbox hg; obtain ⟨⟨hcz6002_0, hcz6002_1⟩, hfz6002_0, hfz6002_1⟩ := cells2 BK120.out) | ((with_reducible refine gate_store (t := 35) (p := 17) rfl ?_); (try (rw [drewN_self w6001]; generalize hq_ : World.drewN w6001 _ = w6001; have n0_ := Aside0.mk (Kd.R_at hq_ HO_10.out); have n1_ := Aside0.mk (Kd.S_at hq_ HO_13.out); have n2_ := Aside0.mk (blk_at hq_ BK120.out); have n3_ := Aside0.mk (below_at hq_ HB.out); clear hq_ HO_10 HO_13 BK120 HB; have HO_10 := n0_; have HO_13 := n1_; have BK120 := n2_; have HB := n3_; clear n0_ n1_ n2_ n3_; (try (obtain ⟨⟨hcyBK120_0, hcyBK120_1⟩, hfyBK120_0, hfyBK120_1⟩ := cells2 BK120.out)))); refine store_event (t := 35) (p := 17) (v := ?_) (w1 := ((w6001.setCell ⟨gb120, 0, none⟩ (.bool (decide (x14_5 > a1)))).setCell ⟨gb120, 1, none⟩ (.slice none 0 0))) ?hg ?ho ?hn ?hr ?_; (case ho => rfl); (case hg => rfl); (case hn => rfl); (case hr => first | (go_simp; done) | (go_simp; rfl)); intro w6003 hw; have n0_ : Aside0 (Kd.R k112 112 w6003 w.heap.size (fun _ => True) (.slice Ao5001 x10_4.length co5001) x10_4) := ⟨(by rw [hw]; exact (by (with_reducible repeat (first | apply Kd.R_alloc | apply Kd.R_drewN | apply Kd.R_drew)); exact Kd.R_mono (Kd.R_far (p := ⟨gb120, 1, none⟩) (Kd.R_far (p := ⟨gb120, 0, none⟩) (Kd.R_types HO_10.out BK120.out (by decide)) (fun _ hk => hk.2) (.bool (decide (x14_5 > a1)))) (fun _ hk => hk.2) (.slice none 0 0)) (fun _ hk => trivial)))⟩; have n1_ : Aside0 (Kd.S k35 35 w6003 w.heap.size (fun k_ => k_ ≠ gb120) u13 x13_4) := ⟨(by rw [hw]; exact (by (with_reducible repeat (first | apply Kd.S_alloc | apply Kd.S_drewN | apply Kd.S_drew)); exact Kd.S_mono (Kd.S_far (p := ⟨gb120, 1, none⟩) (Kd.S_far (p := ⟨gb120, 0, none⟩) (Kd.S_mono HO_13.out (fun k_ hk => (⟨hk, hk.2⟩ : _ ∧ k_ ≠ gb120))) (fun _ hk => hk.2) (.bool (decide (x14_5 > a1)))) (fun _ hk => hk.2) (.slice none 0 0)) (fun _ hk => hk.1.2)))⟩; have n2_ : Aside0 (w6003.heap[gb120]? = some (.cells #[.bool (decide (x14_5 > a1)), .slice none 0 0] 35 (0, 0))) := ⟨(by rw [hw]; exact (by (with_reducible repeat (first | refine blk_drewN ?_ _ | refine blk_drew ?_ | refine blk_alloc ?_ _)); refine blk_put (cs := #[.bool (decide (x14_5 > a1)), .slice none 0 0]) ?_ 1 _ rfl; (with_reducible repeat (first | refine blk_drewN ?_ _ | refine blk_drew ?_ | refine blk_alloc ?_ _)); refine blk_put (cs := #[.bool false, .slice none 0 0]) ?_ 0 _ rfl; (with_reducible repeat (first | refine blk_drewN ?_ _ | refine blk_drew ?_ | refine blk_alloc ?_ _)); exact BK120.out))⟩; have n3_ : Aside0 (Below w.heap.size w w6003) := ⟨(by rw [hw]; exact wB)⟩; clear hw; clear HO_10; clear HO_13; clear BK120; clear HB; have HO_10 := n0_; have HO_13 := n1_; have BK120 := n2_; have HB := n3_; clear n0_ n1_ n2_ n3_))
 generalize hbL6004 : (decide (x14_5 > a1)) = bL6004 at *
 go_loopg [93] k5 (fun kq v93 w' => ∃ (x10_6 : List (S112)) (x93_6 : Int) (x121001_6 : List Int) (u121001 : Value), v93 = .int .i64 x93_6 ∧ Aside0 (impl_Share.l3 kq a1 x10_6 x13_4 a3 x74_4 (x10_4.length : Int) x93_6 bL6004 x121001_6 = some (r1, r2)) ∧ Aside0 (kq ≤ k5) ∧ Aside0 (Kd.R k112 112 w' w.heap.size (fun _ => True) (.slice Ao5001 x10_4.length co5001) x10_6) ∧ Aside0 (Kd.S k35 35 w' w.heap.size (fun k_ => some k_ ≠ (u121001 : Value).ownBlock ∧ k_ ≠ gb120) u13 x13_4) ∧ Aside0 (Kd.R (Kd.int .i64) 2 w' w.heap.size (fun _ => True) u121001 x121001_6) ∧ Aside0 (w'.heap[gb120]? = some (.cells #[.bool bL6004, u121001] 35 (0, 0))) ∧ Aside0 (Below w.heap.size w w'))
 case atStart => exact ⟨(x10_4), (0), (([] : List Int)), (.slice none 0 0), (by first | rfl | (simp; done) | (simp [*]; done)), H', ⟨Nat.le_refl _⟩, ⟨Rh HO_10⟩, ⟨Kd.S_mono (Sh HO_13) (fun _ hk => ⟨(by simp [Value.ownBlock]), hk⟩)⟩, ⟨by first | exact Kd.R_nil _ _ _ _ _ | exact Kd.N_nil _ _ _ _ _ | exact Kd.V_nil _ _ _ _ _ | exact Kd.Q_nil _ _ _ _ _ | exact Kd.S_nil _ _ _ _ _⟩, ⟨Bh BK120⟩, ⟨wB⟩⟩
 case round => (
 clear H'
 try clear p114
 try clear q114
 try clear hx114
 try clear p118
 try clear q118
 try clear hx118
 try clear c1001
 try clear c1001b0
 try clear c1002
 try clear c1002b0
 try clear c1003
 try clear c1003b0
 try clear c1004
 try clear c1004b0
 try clear c1005
 try clear c1005b0
 try clear c1006
 try clear c2001
 try clear c2001b0
 try clear c2002
 try clear c2002b0
 try clear c2003
 try clear c2003b0
 try clear c2004
 try clear c2004b0
 try clear c2005
 try clear c2005b0
 try clear c2006
 try clear c3001
 try clear c3001b0
 try clear c3001b1
 try clear c3002
 try clear c4001
 try clear c4001b0
 try clear c5002
 try clear c5002b0
 try clear c5003
 try clear c5003b0
 try clear c5004
 try clear c5004b0
 try clear hcz6002_0 hcz6002_1 hcz6002_2 hcz6002_3 hfz6002_0 hfz6002_1 hfz6002_2 hfz6002_3
 try clear hcz6004_0 hcz6004_1 hcz6004_2 hcz6004_3 hfz6004_0 hfz6004_1 hfz6004_2 hfz6004_3
 try clear hx114_0
 try clear hx118_0
 try clear hx118_1
 try clear hx118_2
 try clear hx118_3
 try clear p114
 try clear p118
 try clear q114
 try clear q118
 obtain ⟨x10_6, x93_6, x121001_6, u121001, rfl, HA, HK6, HO_10, HO_13, HO_121001, BK120, HB⟩ := hrel
 have hl10_6 := (Kd.R_reads' HO_10.out).1
 rw [hl10_6] at HO_10
 (try simp only [hl10_6])
 (try simp only [hl10_6] at BK120)
 (try simp only [hl10_6] at HO_13)
 (try simp only [hl10_6] at HO_121001)
 cases gk with
 | zero => exact absurd HA.out (by simp [impl_Share.l3])
 | succ k6 => {
 have H := HA.out
 clear HA
 simp only [impl_Share.l3] at H
 by_cases c6005 : x93_6 < (x10_4.length : Int)
 rw [if_pos c6005] at H
 have c6005b0 : decide (x93_6 < (x10_4.length : Int)) = true := decide_eq_true c6005
 (try (have c6005bh := c6005b0; simp only [hl10_6] at c6005bh))
 clear c6005
 by_cases c6006 : 0 ≤ x93_6
 rw [if_pos c6006] at H
 have c6006b0 : decide (0 ≤ x93_6) = true := decide_eq_true c6006
 clear c6006
 by_cases c6007 : x93_6 < (x10_6.length : Int)
 rw [if_pos c6007] at H
 have c6007b0 : decide (x93_6 < (x10_6.length : Int)) = true := decide_eq_true c6007
 (try (have c6007bh := c6007b0; simp only [hl10_6] at c6007bh))
 clear c6007
 by_cases c6008 : bL6004 = true
 subst c6008
 have H1 : ((impl_CongLoss.f ((rd_T112 x10_6 x93_6).f0) ((rd_T112 x10_6 x93_6).f1) ((rd_T112 x10_6 x93_6).f2) ((rd_T112 x10_6 x93_6).f3) ((rd_T112 x10_6 x93_6).f1)).bind fun bt129 => ((some (x10_6.set (x93_6 : Int).toNat (⟨bt129.1, bt129.2.1, bt129.2.2.1, bt129.2.2.2.1⟩ : S112) : List (S112))).bind fun y134 => (if x121001_6.length < 17592186044416 then (impl_Share.l3 k6 a1 y134 x13_4 a3 x74_4 (x10_4.length : Int) (wrap64 (x93_6 + 1)) true (x121001_6 ++ [(rd_T112 y134 x93_6).f1])) else (none)))) = some (r1, r2) := by rw [if_pos rfl] at H; exact H
 clear H
 have H := H1
 clear H1
 replace H := Option.bind_eq_some_iff.mp H
 obtain ⟨⟨t129, t130, t131, t132, t133⟩, A60090, H⟩ := H
 replace H : ((some (x10_6.set (x93_6 : Int).toNat (⟨t129, t130, t131, t132⟩ : S112) : List (S112))).bind fun y134 => (if x121001_6.length < 17592186044416 then (impl_Share.l3 k6 a1 y134 x13_4 a3 x74_4 (x10_4.length : Int) (wrap64 (x93_6 + 1)) true (x121001_6 ++ [(rd_T112 y134 x93_6).f1])) else (none))) = some (r1, r2) := H
 have A6009 := Aside0.mk A60090
 clear A60090
 obtain ⟨y134, hy134⟩ : ∃ y_ : List (S112), y_ = (x10_6.set (x93_6 : Int).toNat (⟨t129, t130, t131, t132⟩ : S112)) := ⟨_, rfl⟩
 replace H : (if x121001_6.length < 17592186044416 then (impl_Share.l3 k6 a1 y134 x13_4 a3 x74_4 (x10_4.length : Int) (wrap64 (x93_6 + 1)) true (x121001_6 ++ [(rd_T112 y134 x93_6).f1])) else (none)) = some (r1, r2) := by first | (rw [hy134]; with_reducible exact H) | (have H2_ := (Option.bind_some _ _).symm.trans H; rw [hy134]; with_reducible exact H2_) | (have H2_ := (Option.bind_some _ _).symm.trans H; with_reducible exact H2_) | with_reducible exact H | (rw [hy134]; exact H) | exact H
 have Ny134 := Aside0.mk hy134
 clear hy134
 by_cases c6011 : x121001_6.length < 17592186044416
 rw [if_pos c6011] at H
 have LMc6011 := Aside0.mk c6011
 clear c6011
 obtain ⟨y136, hy136⟩ : ∃ y_ : List Int, y_ = (x121001_6 ++ [(rd_T112 y134 x93_6).f1]) := ⟨_, rfl⟩
 replace H : (impl_Share.l3 k6 a1 y134 x13_4 a3 x74_4 (x10_4.length : Int) (wrap64 (x93_6 + 1)) true y136) = some (r1, r2) := by first | (rw [hy136]; with_reducible exact H) | (have H2_ := (Option.bind_some _ _).symm.trans H; rw [hy136]; with_reducible exact H2_) | (have H2_ := (Option.bind_some _ _).symm.trans H; with_reducible exact H2_) | with_reducible exact H | (rw [hy136]; exact H) | exact H
 have Ny136 := Aside0.mk hy136
 clear hy136
 have H' := Aside0.mk H
 clear H
 have bq1_ : True := trivial
 rotate_left
 rw [if_neg c6011] at H
 exact absurd H (by simp)
 replace c6008 := Bool.eq_false_iff.mpr c6008
 subst c6008
 have H1 : ((impl_CongAck.f k6 ((rd_T112 x10_6 x93_6).f0) ((rd_T112 x10_6 x93_6).f1) ((rd_T112 x10_6 x93_6).f2) ((rd_T112 x10_6 x93_6).f3) ((rd_T112 x10_6 x93_6).f1)).bind fun bt139 => ((some (x10_6.set (x93_6 : Int).toNat (⟨bt139.1, bt139.2.1, bt139.2.2.1, bt139.2.2.2.1⟩ : S112) : List (S112))).bind fun y144 => (if x121001_6.length < 17592186044416 then (impl_Share.l3 k6 a1 y144 x13_4 a3 x74_4 (x10_4.length : Int) (wrap64 (x93_6 + 1)) false (x121001_6 ++ [(rd_T112 y144 x93_6).f1])) else (none)))) = some (r1, r2) := by rw [if_neg (show ¬ (false = true) by decide)] at H; exact H
 clear H
 have H := H1
 clear H1
 replace H := Option.bind_eq_some_iff.mp H
 obtain ⟨⟨t139, t140, t141, t142, t143⟩, A60120, H⟩ := H
 replace H : ((some (x10_6.set (x93_6 : Int).toNat (⟨t139, t140, t141, t142⟩ : S112) : List (S112))).bind fun y144 => (if x121001_6.length < 17592186044416 then (impl_Share.l3 k6 a1 y144 x13_4 a3 x74_4 (x10_4.length : Int) (wrap64 (x93_6 + 1)) false (x121001_6 ++ [(rd_T112 y144 x93_6).f1])) else (none))) = some (r1, r2) := H
 have A6012 := Aside0.mk A60120
 clear A60120
 obtain ⟨y144, hy144⟩ : ∃ y_ : List (S112), y_ = (x10_6.set (x93_6 : Int).toNat (⟨t139, t140, t141, t142⟩ : S112)) := ⟨_, rfl⟩
 replace H : (if x121001_6.length < 17592186044416 then (impl_Share.l3 k6 a1 y144 x13_4 a3 x74_4 (x10_4.length : Int) (wrap64 (x93_6 + 1)) false (x121001_6 ++ [(rd_T112 y144 x93_6).f1])) else (none)) = some (r1, r2) := by first | (rw [hy144]; with_reducible exact H) | (have H2_ := (Option.bind_some _ _).symm.trans H; rw [hy144]; with_reducible exact H2_) | (have H2_ := (Option.bind_some _ _).symm.trans H; with_reducible exact H2_) | with_reducible exact H | (rw [hy144]; exact H) | exact H
 have Ny144 := Aside0.mk hy144
 clear hy144
 by_cases c6014 : x121001_6.length < 17592186044416
 rw [if_pos c6014] at H
 have LMc6014 := Aside0.mk c6014
 clear c6014
 obtain ⟨y146, hy146⟩ : ∃ y_ : List Int, y_ = (x121001_6 ++ [(rd_T112 y144 x93_6).f1]) := ⟨_, rfl⟩
 replace H : (impl_Share.l3 k6 a1 y144 x13_4 a3 x74_4 (x10_4.length : Int) (wrap64 (x93_6 + 1)) false y146) = some (r1, r2) := by first | (rw [hy146]; with_reducible exact H) | (have H2_ := (Option.bind_some _ _).symm.trans H; rw [hy146]; with_reducible exact H2_) | (have H2_ := (Option.bind_some _ _).symm.trans H; with_reducible exact H2_) | with_reducible exact H | (rw [hy146]; exact H) | exact H
 have Ny146 := Aside0.mk hy146
 clear hy146
 have H' := Aside0.mk H
 clear H
 rotate_left
 rw [if_neg c6014] at H
 exact absurd H (by simp)
 rw [if_neg c6007] at H
 exact absurd H (by simp)
 rw [if_neg c6006] at H
 exact absurd H (by simp)
 rw [if_neg c6005] at H
 have c6005b0 : decide (x93_6 < (x10_4.length : Int)) = false := decide_eq_false c6005
 (try (have c6005bh := c6005b0; simp only [hl10_6] at c6005bh))
 clear c6005
 replace H := Option.bind_eq_some_iff.mp H
 obtain ⟨t121, A60150, H⟩ := H
 replace H : (if x13_4.length < 4398046511104 then (impl_Share.l1 k6 a1 x10_6 (x13_4 ++ [(⟨bL6004, t121⟩ : S35)]) a3 (wrap64 (x74_4 + 1))) else (none)) = some (r1, r2) := H
 have A6015 := Aside0.mk A60150
 clear A60150
 by_cases c6016 : x13_4.length < 4398046511104
 rw [if_pos c6016] at H
 have LMc6016 := Aside0.mk c6016
 clear c6016
 obtain ⟨y124, hy124⟩ : ∃ y_ : List (S35), y_ = (x13_4 ++ [(⟨bL6004, t121⟩ : S35)]) := ⟨_, rfl⟩
 replace H : (impl_Share.l1 k6 a1 x10_6 y124 a3 (wrap64 (x74_4 + 1))) = some (r1, r2) := by first | (rw [hy124]; with_reducible exact H) | (have H2_ := (Option.bind_some _ _).symm.trans H; rw [hy124]; with_reducible exact H2_) | (have H2_ := (Option.bind_some _ _).symm.trans H; with_reducible exact H2_) | with_reducible exact H | (rw [hy124]; exact H) | exact H
 have Ny124 := Aside0.mk hy124
 clear hy124
 have H' := Aside0.mk H
 clear H
 rotate_left
 rw [if_neg c6016] at H
 exact absurd H (by simp)
 iterate 2 (
 focus (
 have p127 : 0 ≤ (x93_6 : Int) := of_decide_eq_true (by first | (with_reducible assumption) | assumption)
 have q127 : x93_6 < (x10_6.length : Int) := of_decide_eq_true (by first | (with_reducible assumption) | assumption)
 obtain ⟨ad127, e127, hx127_0, hx127_1, hx127_2, hx127_3⟩ := at_T112 (Kd.R_reads' HO_10.out).2.2 x93_6 p127 q127
 cases e127
 replace p127 := eq_true p127
 replace q127 := eq_true q127
 )
 rotate_left
 )
 rotate_right 2
 {
 try go_wp2_with (first | ((with_reducible refine gate_dst (N := 19) rfl ?_); (try (refine gate_guard (by rfl) ?_; dsimp only)); refine box_event ?hg (N := 19) ?hd (cs := #[.int .i64 0, .int .i64 0, .int .i64 0, .int .i64 0]) (t := 112) ?hr ?_; (case hd => rfl); (case hg => rfl); (case hr => first | (go_simp; done) | (go_simp; rfl)); intro gb128 hg w7001 hbox hb; have n0_ := Aside0.mk (Kd.R_below (Kd.R_elderB (Rh HO_10) gb128 (Nat.le_of_eq hg.symm)) hb); have n1_ := Aside0.mk (Kd.S_below (Sh HO_13) hb); have n2_ := Aside0.mk (Kd.R_below (Rh HO_121001) hb); have n3_ := Aside0.mk (blk_below (Bh BK120) hb); have n4_ := Aside0.mk (below_step wB hb); have n5_ := Aside0.mk (hbox); have n6_ := Aside0.mk ((by rw [hg]; exact (below_size wB) : w.heap.size ≤ gb128)); have n7_ := Aside0.mk ((by rw [hg]; exact (below_size wB) : w.heap.size ≤ gb128)); have n8_ := Aside0.mk ((by rw [hg]; exact Nat.ne_of_lt (blk_lt (Bh BK120)) : gb120 ≠ gb128)); have n9_ := Aside0.mk ((by rw [hg]; exact Nat.ne_of_gt (blk_lt (Bh BK120)) : gb128 ≠ gb120)); clear HO_10; clear HO_13; clear HO_121001; clear BK120; clear HB; have HO_10 := n0_; have HO_13 := n1_; have HO_121001 := n2_; have BK120 := n3_; have HB := n4_; have BK128 := n5_; have GW128 := n6_; have GE128 := n7_; have NB120_128 := n8_; have NB128_120 := n9_; clear n0_ n1_ n2_ n3_ n4_ n5_ n6_ n7_ n8_ n9_; clear hb hbox hg; have hnb7002 := NB128_120.out; have hnc7002 := NB120_128.out; obtain ⟨⟨hcz7003_0, hcz7003_1, hcz7003_2, hcz7003_3⟩, hfz7003_0, hfz7003_1, hfz7003_2, hfz7003_3⟩ := cells4 BK128.out) | ((with_reducible refine gate_store (t := 112) (p := 19) rfl ?_); (try (rw [drewN_self w7001]; generalize hq_ : World.drewN w7001 _ = w7001; have n0_ := Aside0.mk (Kd.R_at hq_ HO_10.out); have n1_ := Aside0.mk (Kd.S_at hq_ HO_13.out); have n2_ := Aside0.mk (Kd.R_at hq_ HO_121001.out); have n3_ := Aside0.mk (blk_at hq_ BK120.out); have n4_ := Aside0.mk (blk_at hq_ BK128.out); have n5_ := Aside0.mk (below_at hq_ HB.out); clear hq_ HO_10 HO_13 HO_121001 BK120 BK128 HB; have HO_10 := n0_; have HO_13 := n1_; have HO_121001 := n2_; have BK120 := n3_; have BK128 := n4_; have HB := n5_; clear n0_ n1_ n2_ n3_ n4_ n5_; (try (obtain ⟨⟨hcyBK120_0, hcyBK120_1⟩, hfyBK120_0, hfyBK120_1⟩ := cells2 BK120.out)); (try (obtain ⟨⟨hcyBK128_0, hcyBK128_1, hcyBK128_2, hcyBK128_3⟩, hfyBK128_0, hfyBK128_1, hfyBK128_2, hfyBK128_3⟩ := cells4 BK128.out)))); refine store_event (t := 112) (p := 19) (v := ?_) (w1 := ((((w7001.setCell ⟨gb128, 0, none⟩ (.int .i64 ((rd_T112 x10_6 x93_6).f0))).setCell ⟨gb128, 1, none⟩ (.int .i64 ((rd_T112 x10_6 x93_6).f1))).setCell ⟨gb128, 2, none⟩ (.int .i64 ((rd_T112 x10_6 x93_6).f2))).setCell ⟨gb128, 3, none⟩ (.int .i64 ((rd_T112 x10_6 x93_6).f3)))) ?hg ?ho ?hn ?hr ?_; (case ho => rfl); (case hg => rfl); (case hn => rfl); (case hr => first | (go_simp; done) | (go_simp; rfl)); intro w7004 hw; have n0_ : Aside0 (Kd.R k112 112 w7004 w.heap.size (fun k_ => k_ ≠ gb128) (.slice (some ad127) x10_6.length co5001) x10_6) := ⟨(by rw [hw]; exact (by (with_reducible repeat (first | apply Kd.R_alloc | apply Kd.R_drewN | apply Kd.R_drew)); exact Kd.R_mono (Kd.R_far (p := ⟨gb128, 3, none⟩) (Kd.R_far (p := ⟨gb128, 2, none⟩) (Kd.R_far (p := ⟨gb128, 1, none⟩) (Kd.R_far (p := ⟨gb128, 0, none⟩) (Kd.R_mono HO_10.out (fun k_ hk => (⟨hk, hk.2⟩ : _ ∧ k_ ≠ gb128))) (fun _ hk => hk.2) (.int .i64 ((rd_T112 x10_6 x93_6).f0))) (fun _ hk => hk.2) (.int .i64 ((rd_T112 x10_6 x93_6).f1))) (fun _ hk => hk.2) (.int .i64 ((rd_T112 x10_6 x93_6).f2))) (fun _ hk => hk.2) (.int .i64 ((rd_T112 x10_6 x93_6).f3))) (fun _ hk => hk.1.2)))⟩; have n1_ : Aside0 (Kd.S k35 35 w7004 w.heap.size (fun k_ => some k_ ≠ (u121001 : Value).ownBlock ∧ k_ ≠ gb120) u13 x13_4) := ⟨(by rw [hw]; exact (by (with_reducible repeat (first | apply Kd.S_alloc | apply Kd.S_drewN | apply Kd.S_drew)); exact Kd.S_mono (Kd.S_far (p := ⟨gb128, 3, none⟩) (Kd.S_far (p := ⟨gb128, 2, none⟩) (Kd.S_far (p := ⟨gb128, 1, none⟩) (Kd.S_far (p := ⟨gb128, 0, none⟩) (Kd.S_types HO_13.out BK128.out (by decide)) (fun _ hk => hk.2) (.int .i64 ((rd_T112 x10_6 x93_6).f0))) (fun _ hk => hk.2) (.int .i64 ((rd_T112 x10_6 x93_6).f1))) (fun _ hk => hk.2) (.int .i64 ((rd_T112 x10_6 x93_6).f2))) (fun _ hk => hk.2) (.int .i64 ((rd_T112 x10_6 x93_6).f3))) (fun _ hk => ⟨hk.1.1, hk.1.2⟩)))⟩; have n2_ : Aside0 (Kd.R (Kd.int .i64) 2 w7004 w.heap.size (fun _ => True) u121001 x121001_6) := ⟨(by rw [hw]; exact (by (with_reducible repeat (first | apply Kd.R_alloc | apply Kd.R_drewN | apply Kd.R_drew)); exact Kd.R_mono (Kd.R_far (p := ⟨gb128, 3, none⟩) (Kd.R_far (p := ⟨gb128, 2, none⟩) (Kd.R_far (p := ⟨gb128, 1, none⟩) (Kd.R_far (p := ⟨gb128, 0, none⟩) (Kd.R_types HO_121001.out BK128.out (by decide)) (fun _ hk => hk.2) (.int .i64 ((rd_T112 x10_6 x93_6).f0))) (fun _ hk => hk.2) (.int .i64 ((rd_T112 x10_6 x93_6).f1))) (fun _ hk => hk.2) (.int .i64 ((rd_T112 x10_6 x93_6).f2))) (fun _ hk => hk.2) (.int .i64 ((rd_T112 x10_6 x93_6).f3))) (fun _ hk => trivial)))⟩; have n3_ : Aside0 (w7004.heap[gb120]? = some (.cells #[.bool true, u121001] 35 (0, 0))) := ⟨(by rw [hw]; exact (by (with_reducible repeat (first | refine blk_drewN ?_ _ | refine blk_drew ?_ | refine blk_alloc ?_ _)); refine blk_far ?_ NB120_128.out _; (with_reducible repeat (first | refine blk_drewN ?_ _ | refine blk_drew ?_ | refine blk_alloc ?_ _)); refine blk_far ?_ NB120_128.out _; (with_reducible repeat (first | refine blk_drewN ?_ _ | refine blk_drew ?_ | refine blk_alloc ?_ _)); refine blk_far ?_ NB120_128.out _; (with_reducible repeat (first | refine blk_drewN ?_ _ | refine blk_drew ?_ | refine blk_alloc ?_ _)); refine blk_far ?_ NB120_128.out _; (with_reducible repeat (first | refine blk_drewN ?_ _ | refine blk_drew ?_ | refine blk_alloc ?_ _)); exact BK120.out))⟩; have n4_ : Aside0 (w7004.heap[gb128]? = some (.cells #[.int .i64 ((rd_T112 x10_6 x93_6).f0), .int .i64 ((rd_T112 x10_6 x93_6).f1), .int .i64 ((rd_T112 x10_6 x93_6).f2), .int .i64 ((rd_T112 x10_6 x93_6).f3)] 112 (0, 0))) := ⟨(by rw [hw]; exact (by (with_reducible repeat (first | refine blk_drewN ?_ _ | refine blk_drew ?_ | refine blk_alloc ?_ _)); refine blk_put (cs := #[.int .i64 ((rd_T112 x10_6 x93_6).f0), .int .i64 ((rd_T112 x10_6 x93_6).f1), .int .i64 ((rd_T112 x10_6 x93_6).f2), .int .i64 0]) ?_ 3 _ rfl; (with_reducible repeat (first | refine blk_drewN ?_ _ | refine blk_drew ?_ | refine blk_alloc ?_ _)); refine blk_put (cs := #[.int .i64 ((rd_T112 x10_6 x93_6).f0), .int .i64 ((rd_T112 x10_6 x93_6).f1), .int .i64 0, .int .i64 0]) ?_ 2 _ rfl; (with_reducible repeat (first | refine blk_drewN ?_ _ | refine blk_drew ?_ | refine blk_alloc ?_ _)); refine blk_put (cs := #[.int .i64 ((rd_T112 x10_6 x93_6).f0), .int .i64 0, .int .i64 0, .int .i64 0]) ?_ 1 _ rfl; (with_reducible repeat (first | refine blk_drewN ?_ _ | refine blk_drew ?_ | refine blk_alloc ?_ _)); refine blk_put (cs := #[.int .i64 0, .int .i64 0, .int .i64 0, .int .i64 0]) ?_ 0 _ rfl; (with_reducible repeat (first | refine blk_drewN ?_ _ | refine blk_drew ?_ | refine blk_alloc ?_ _)); exact BK128.out))⟩; have n5_ : Aside0 (Below w.heap.size w w7004) := ⟨(by rw [hw]; exact wB)⟩; clear hw; clear HO_10; clear HO_13; clear HO_121001; clear BK120; clear BK128; clear HB; have HO_10 := n0_; have HO_13 := n1_; have HO_121001 := n2_; have BK120 := n3_; have BK128 := n4_; have HB := n5_; clear n0_ n1_ n2_ n3_ n4_ n5_; obtain ⟨⟨hcz7005_0, hcz7005_1⟩, hfz7005_0, hfz7005_1⟩ := cells2 BK120.out; obtain ⟨⟨hcz7006_0, hcz7006_1, hcz7006_2, hcz7006_3⟩, hfz7006_0, hfz7006_1, hfz7006_2, hfz7006_3⟩ := cells4 BK128.out) | ((with_reducible refine gate_callee (f := 66) rfl ?_); refine goesL_ (some 106) rfl rfl Try.func66 (by kernel_rfl) rfl #[.agg #[.int .i64 ((rd_T112 x10_6 x93_6).f0), .int .i64 ((rd_T112 x10_6 x93_6).f1), .int .i64 ((rd_T112 x10_6 x93_6).f2), .int .i64 ((rd_T112 x10_6 x93_6).f3)], .int .i64 ((rd_T112 x10_6 x93_6).f1)] rfl wT ?_; (with_reducible refine (impl_CongLoss.calls ((rd_T112 x10_6 x93_6).f0) ((rd_T112 x10_6 x93_6).f1) ((rd_T112 x10_6 x93_6).f2) ((rd_T112 x10_6 x93_6).f3) ((rd_T112 x10_6 x93_6).f1) t129 t130 t131 t132 t133 _ A6009.out).mono ?_); rintro e w7007 ⟨rfl, hb⟩; refine ⟨_, rfl, ?_⟩; have n0_ := Aside0.mk (Kd.R_below (Rh HO_10) hb); have n1_ := Aside0.mk (Kd.S_below (Sh HO_13) hb); have n2_ := Aside0.mk (Kd.R_below (Rh HO_121001) hb); have n3_ := Aside0.mk (blk_below (Bh BK120) hb); have n4_ := Aside0.mk (blk_below (Bh BK128) hb); have n5_ := Aside0.mk (below_step wB hb); clear HO_10; clear HO_13; clear HO_121001; clear BK120; clear BK128; clear HB; have HO_10 := n0_; have HO_13 := n1_; have HO_121001 := n2_; have BK120 := n3_; have BK128 := n4_; have HB := n5_; clear n0_ n1_ n2_ n3_ n4_ n5_; (try clear hb); (try clear hb2); (try clear hk); (try clear hi); have p6010 : 0 ≤ (x93_6 : Int) := of_decide_eq_true (by first | (with_reducible assumption) | assumption); have q6010 : (x93_6 : Int) < ((x10_6.length : Int) : Int) := of_decide_eq_true (by first | (with_reducible assumption) | assumption); obtain ⟨go6010, co6010, eo6010, gb6010, gl6010, cl6010, HG6010⟩ := Kd.R_form HO_10.out (by omega); (first | cases eo6010 | (injection eo6010 with ea_ en_ ec_; (first | subst ea_ | (injection ea_ with ea_; subst ea_)); subst ec_; clear en_)); have GB6010 := Aside0.mk gb6010; have GG6010 := Aside0.mk HG6010; clear gb6010 gl6010 HG6010; (first | simp only [add_plain] at hx127_0 | skip); (first | simp only [add_plain] at hx127_1 | skip); (first | simp only [add_plain] at hx127_2 | skip); (first | simp only [add_plain] at hx127_3 | skip); obtain ⟨ce6010, hcl6010, hM6010, hcc6010, hfr6010⟩ := Kd.R_elem HO_10.out z112 (x93_6 : Int) p6010 q6010; obtain rfl := k112_openM hM6010; have hx6010_0 : w7007.cell? ⟨go6010, (x93_6 : Int).toNat * 4, none⟩ = some (.int .i64 ((rd_T112 x10_6 x93_6).f0)) := hcc6010 0 _ rfl; have hx6010_1 : w7007.cell? ⟨go6010, (x93_6 : Int).toNat * 4 + 1, none⟩ = some (.int .i64 ((rd_T112 x10_6 x93_6).f1)) := hcc6010 1 _ rfl; have hx6010_2 : w7007.cell? ⟨go6010, (x93_6 : Int).toNat * 4 + 2, none⟩ = some (.int .i64 ((rd_T112 x10_6 x93_6).f2)) := hcc6010 2 _ rfl; have hx6010_3 : w7007.cell? ⟨go6010, (x93_6 : Int).toNat * 4 + 3, none⟩ = some (.int .i64 ((rd_T112 x10_6 x93_6).f3)) := hcc6010 3 _ rfl; have hf6010_0 : w7007.frozen? ⟨go6010, (x93_6 : Int).toNat * 4, none⟩ = false := hfr6010 0; have hf6010_1 : w7007.frozen? ⟨go6010, (x93_6 : Int).toNat * 4 + 1, none⟩ = false := hfr6010 1; have hf6010_2 : w7007.frozen? ⟨go6010, (x93_6 : Int).toNat * 4 + 2, none⟩ = false := hfr6010 2; have hf6010_3 : w7007.frozen? ⟨go6010, (x93_6 : Int).toNat * 4 + 3, none⟩ = false := hfr6010 3; clear hcl6010 hcc6010 hfr6010 hM6010; replace p6010 := eq_true p6010; replace q6010 := eq_true q6010; have HX7008 := Aside0.mk (show Kd.R k112 112 w7007 w.heap.size (fun k_ => k_ ≠ gb128) (.slice (some ⟨go6010, 0, none⟩) x10_6.length co5001) x10_6 from (Rh HO_10)); obtain ⟨ce7008, hcl7008, hM7008, hcc7008, hfr7008⟩ := Kd.R_elem HX7008.out z112 (x93_6 : Int) (of_decide_eq_true (by first | (with_reducible assumption) | assumption)) (by have h_ : (x93_6 : Int) < ((x10_6.length : Int) : Int) := of_decide_eq_true (by first | (with_reducible assumption) | assumption); first | exact h_ | (have e_ := (Kd.R_reads' HO_10.out).1; omega) | simpa using h_); obtain rfl := k112_openM hM7008; have HP7008 := Kd.R_seg HX7008.out (x93_6 : Int) (of_decide_eq_true (by first | (with_reducible assumption) | assumption)) (by have h_ : (x93_6 : Int) < ((x10_6.length : Int) : Int) := of_decide_eq_true (by first | (with_reducible assumption) | assumption); first | exact h_ | (have e_ := (Kd.R_reads' HO_10.out).1; omega) | simpa using h_) (seg := [.int .i64 t129, .int .i64 t130, .int .i64 t131, .int .i64 t132]) (j := 0) hcl7008 hcc7008 (show 4 ≤ 4 from by decide) (x' := (⟨t129, t130, t131, t132⟩ : S112)) (k112_mkM _ _ _ (⟨t129, t130, t131, t132⟩ : S112) ) (fun _ hk => hk); have hx7008_0 := hcc7008 0 _ rfl; (try simp only [show (k112).sz = 4 from rfl, Nat.mul_one, Nat.add_zero] at hx7008_0); have hf7008_0 := hfr7008 0; (try simp only [show (k112).sz = 4 from rfl, Nat.mul_one, Nat.add_zero] at hf7008_0); have hx7008_1 := hcc7008 1 _ rfl; (try simp only [show (k112).sz = 4 from rfl, Nat.mul_one, Nat.add_zero] at hx7008_1); have hf7008_1 := hfr7008 1; (try simp only [show (k112).sz = 4 from rfl, Nat.mul_one, Nat.add_zero] at hf7008_1); have hx7008_2 := hcc7008 2 _ rfl; (try simp only [show (k112).sz = 4 from rfl, Nat.mul_one, Nat.add_zero] at hx7008_2); have hf7008_2 := hfr7008 2; (try simp only [show (k112).sz = 4 from rfl, Nat.mul_one, Nat.add_zero] at hf7008_2); have hx7008_3 := hcc7008 3 _ rfl; (try simp only [show (k112).sz = 4 from rfl, Nat.mul_one, Nat.add_zero] at hx7008_3); have hf7008_3 := hfr7008 3; (try simp only [show (k112).sz = 4 from rfl, Nat.mul_one, Nat.add_zero] at hf7008_3); clear hcl7008 hcc7008 hfr7008 hM7008) | ((with_reducible refine gate_store (t := 112) (p := 109) rfl ?_); (try (rw [drewN_self w7007]; generalize hq_ : World.drewN w7007 _ = w7007; have n0_ := Aside0.mk (Kd.R_at hq_ HO_10.out); have n1_ := Aside0.mk (Kd.S_at hq_ HO_13.out); have n2_ := Aside0.mk (Kd.R_at hq_ HO_121001.out); have n3_ := Aside0.mk (blk_at hq_ BK120.out); have n4_ := Aside0.mk (blk_at hq_ BK128.out); have n5_ := Aside0.mk (below_at hq_ HB.out); clear hq_ HO_10 HO_13 HO_121001 BK120 BK128 HB; have HO_10 := n0_; have HO_13 := n1_; have HO_121001 := n2_; have BK120 := n3_; have BK128 := n4_; have HB := n5_; clear n0_ n1_ n2_ n3_ n4_ n5_; (try (obtain ⟨⟨hcyBK120_0, hcyBK120_1⟩, hfyBK120_0, hfyBK120_1⟩ := cells2 BK120.out)); (try (obtain ⟨⟨hcyBK128_0, hcyBK128_1, hcyBK128_2, hcyBK128_3⟩, hfyBK128_0, hfyBK128_1, hfyBK128_2, hfyBK128_3⟩ := cells4 BK128.out)); (try (have HX7008 := Aside0.mk (show Kd.R k112 112 w7007 w.heap.size (fun k_ => k_ ≠ gb128) (.slice (some ⟨go6010, 0, none⟩) x10_6.length co5001) x10_6 from (Rh HO_10)))); (try (obtain ⟨ce7008, hcl7008, hM7008, hcc7008, hfr7008⟩ := Kd.R_elem HX7008.out z112 (x93_6 : Int) (of_decide_eq_true (by first | (with_reducible assumption) | assumption)) (by have h_ : (x93_6 : Int) < ((x10_6.length : Int) : Int) := of_decide_eq_true (by first | (with_reducible assumption) | assumption); first | exact h_ | (have e_ := (Kd.R_reads' HO_10.out).1; omega) | simpa using h_))); (try (obtain rfl := k112_openM hM7008)); (try (have HP7008 := Kd.R_seg HX7008.out (x93_6 : Int) (of_decide_eq_true (by first | (with_reducible assumption) | assumption)) (by have h_ : (x93_6 : Int) < ((x10_6.length : Int) : Int) := of_decide_eq_true (by first | (with_reducible assumption) | assumption); first | exact h_ | (have e_ := (Kd.R_reads' HO_10.out).1; omega) | simpa using h_) (seg := [.int .i64 t129, .int .i64 t130, .int .i64 t131, .int .i64 t132]) (j := 0) hcl7008 hcc7008 (show 4 ≤ 4 from by decide) (x' := (⟨t129, t130, t131, t132⟩ : S112)) (k112_mkM _ _ _ (⟨t129, t130, t131, t132⟩ : S112) ) (fun _ hk => hk))); (try (have hx7008_0 := hcc7008 0 _ rfl)); (try (try simp only [show (k112).sz = 4 from rfl, Nat.mul_one, Nat.add_zero] at hx7008_0)); (try (have hf7008_0 := hfr7008 0)); (try (try simp only [show (k112).sz = 4 from rfl, Nat.mul_one, Nat.add_zero] at hf7008_0)); (try (have hx7008_1 := hcc7008 1 _ rfl)); (try (try simp only [show (k112).sz = 4 from rfl, Nat.mul_one, Nat.add_zero] at hx7008_1)); (try (have hf7008_1 := hfr7008 1)); (try (try simp only [show (k112).sz = 4 from rfl, Nat.mul_one, Nat.add_zero] at hf7008_1)); (try (have hx7008_2 := hcc7008 2 _ rfl)); (try (try simp only [show (k112).sz = 4 from rfl, Nat.mul_one, Nat.add_zero] at hx7008_2)); (try (have hf7008_2 := hfr7008 2)); (try (try simp only [show (k112).sz = 4 from rfl, Nat.mul_one, Nat.add_zero] at hf7008_2)); (try (have hx7008_3 := hcc7008 3 _ rfl)); (try (try simp only [show (k112).sz = 4 from rfl, Nat.mul_one, Nat.add_zero] at hx7008_3)); (try (have hf7008_3 := hfr7008 3)); (try (try simp only [show (k112).sz = 4 from rfl, Nat.mul_one, Nat.add_zero] at hf7008_3)); (try (clear hcl7008 hcc7008 hfr7008 hM7008)))); refine store_event (t := 112) (p := 109) (v := ?_) (w1 := ((((w7007.setCell ⟨go6010, (x93_6 : Int).toNat * 4, none⟩ (.int .i64 t129)).setCell ⟨go6010, (x93_6 : Int).toNat * 4 + 1, none⟩ (.int .i64 t130)).setCell ⟨go6010, (x93_6 : Int).toNat * 4 + 2, none⟩ (.int .i64 t131)).setCell ⟨go6010, (x93_6 : Int).toNat * 4 + 3, none⟩ (.int .i64 t132))) ?hg ?ho ?hn ?hr ?_; (case ho => rfl); (case hg => rfl); (case hn => rfl); (case hr => first | (go_simp; done) | (go_simp; rfl)); intro w7009 hw; have hg : w7007.grownBy w7009 (some go6010) := (by rw [hw]; exact HP7008.2); have hp_ : Kd.R k112 112 w7009 w.heap.size (fun k_ => k_ ≠ gb128) (.slice (some ⟨go6010, 0, none⟩) x10_6.length co5001) y134 := (by rw [hw, Ny134.out]; exact HP7008.1); clear HP7008; have n0_ := Aside0.mk (hp_); have n1_ := Aside0.mk (Kd.S_over' (v := (.slice (some ⟨go6010, 0, none⟩) x10_6.length co5001)) (Sh HO_13) (Kd.R_typed HO_10.out) (by decide) hg); have n2_ := Aside0.mk (Kd.R_over' (v := (.slice (some ⟨go6010, 0, none⟩) x10_6.length co5001)) (Rh HO_121001) (Kd.R_typed HO_10.out) (by decide) hg); have n3_ := Aside0.mk (blk_grown (Bh BK120) hg (Kd.R_ne HO_10.out BK120.out (by decide))); have n4_ := Aside0.mk (blk_grown (Bh BK128) hg (Kd.R_away HO_10.out (fun _ hk => hk))); have n5_ := Aside0.mk ((by rw [hw]; exact below_set (below_set (below_set (below_set (HB.out) GB6010.out) GB6010.out) GB6010.out) GB6010.out : Below w.heap.size w w7009)); clear HO_10; clear HO_13; clear HO_121001; clear BK120; clear BK128; clear HB; have HO_10 := n0_; have HO_13 := n1_; have HO_121001 := n2_; have BK120 := n3_; have BK128 := n4_; have HB := n5_; clear n0_ n1_ n2_ n3_ n4_ n5_; clear hg hw hp_))
 have n0_ := Aside0.mk (Kd.R_drew HO_10.out)
 have n1_ := Aside0.mk (Kd.S_drew HO_13.out)
 have n2_ := Aside0.mk (Kd.R_drew HO_121001.out)
 have n3_ := Aside0.mk (blk_drew BK120.out)
 have n4_ := Aside0.mk (blk_drew BK128.out)
 have n5_ := Aside0.mk (below_drew1 HB.out)
 clear HO_10
 clear HO_13
 clear HO_121001
 clear BK120
 clear BK128
 clear HB
 have HO_10 := n0_
 have HO_13 := n1_
 have HO_121001 := n2_
 have BK120 := n3_
 have BK128 := n4_
 have HB := n5_
 clear n0_ n1_ n2_ n3_ n4_ n5_
 have p135 : 0 ≤ (x93_6 : Int) := of_decide_eq_true (by first | (with_reducible assumption) | assumption)
 have q135 : x93_6 < (y134.length : Int) := (by have h_ : (x93_6 : Int) < ((x10_6.length : Int) : Int) := of_decide_eq_true (by first | (with_reducible assumption) | assumption); first | (have e_ := (Kd.R_reads' HO_10.out).1; omega) | simpa only [Ny134.out, List.length_set] using h_)
 have ql135 : ((x93_6 : Int) < ((x10_6.length : Int) : Int)) = True := eq_true (of_decide_eq_true (by first | (with_reducible assumption) | assumption))
 obtain ⟨ad135, e135, hx135_0, hx135_1, hx135_2, hx135_3⟩ := at_T112 (Kd.R_reads' HO_10.out).2.2 x93_6 p135 q135
 obtain rfl : (⟨go6010, 0, none⟩ : Addr) = ad135 := (by injection e135)
 (first | simp only [add_plain] at hx135_0 | simp only [add_at] at hx135_0 | simp only [Addr.add, Nat.zero_add] at hx135_0 | skip)
 (first | simp only [add_plain] at hx135_1 | simp only [add_at] at hx135_1 | simp only [Addr.add, Nat.zero_add] at hx135_1 | skip)
 (first | simp only [add_plain] at hx135_2 | simp only [add_at] at hx135_2 | simp only [Addr.add, Nat.zero_add] at hx135_2 | skip)
 (first | simp only [add_plain] at hx135_3 | simp only [add_at] at hx135_3 | simp only [Addr.add, Nat.zero_add] at hx135_3 | skip)
 replace p135 := eq_true p135
 replace q135 := eq_true q135
 refine start_ (n := 11) (S := fun w' => w'.cell? ⟨gb120, 0, none⟩ = some (.bool true) ∧ w'.cell? ⟨gb120, 1, none⟩ = some (u121001) ∧ w'.cell? ⟨go6010, (x93_6).toNat * 4, none⟩ = some (.int .i64 ((rd_T112 y134 x93_6).f0)) ∧ w'.cell? ⟨go6010, (x93_6).toNat * 4 + 1, none⟩ = some (.int .i64 ((rd_T112 y134 x93_6).f1)) ∧ w'.cell? ⟨go6010, (x93_6).toNat * 4 + 2, none⟩ = some (.int .i64 ((rd_T112 y134 x93_6).f2)) ∧ w'.cell? ⟨go6010, (x93_6).toNat * 4 + 3, none⟩ = some (.int .i64 ((rd_T112 y134 x93_6).f3))) (ds := [8, 10]) #[false, false, false, false, false, false, false, false, false, false, false] (by kernel_rfl) rfl rfl ⟨(blk_cell BK120.out 0).trans rfl, (blk_cell BK120.out 1).trans rfl, hx135_0, hx135_1, hx135_2, hx135_3⟩ (fun hHeld => ?_); refine with_tabW impl_Share.tab29 impl_Share.bits29 (fun HT_ HW_ => ?_)
 generalize w7009.drew = w7010 at HO_10 HO_13 HO_121001 BK120 BK128 HB hx135_0 hx135_1 hx135_2 hx135_3 hHeld ⊢
 refine pure_ (i := 0) (N := some 120) (v := ?_) (a' := ?_) #[true, false, false, false, false, false, false, false, false, false, false] rfl rfl (any_of HT_.out (by kernel_rfl)) (fun _ _ _ h => h) (Or.inl ⟨by rfl, ?_⟩) ?_ ?_
 rotate_left
 {
 intro w'
 go_simp
 with_reducible rfl
 }
 rotate_left
 {
 simp only [Act.put, List.setIfInBounds_toArray, List.set_cons_zero, List.set_cons_succ, i64_w, i32_w]
 rfl
 }
 refine pure_ (i := 2) (N := some 122) (v := ?_) (a' := ?_) #[true, false, true, false, false, false, false, false, false, false, false] rfl rfl (any_of HT_.out (by kernel_rfl)) (fun _ _ _ h => h) (Or.inl ⟨by rfl, ?_⟩) ?_ ?_
 rotate_left
 {
 intro w'
 go_simp
 with_reducible rfl
 }
 rotate_left
 {
 simp only [Act.put, List.setIfInBounds_toArray, List.set_cons_zero, List.set_cons_succ, i64_w, i32_w]
 rfl
 }
 refine pure_ (i := 3) (N := some 123) (v := ?_) (a' := ?_) #[true, false, true, true, false, false, false, false, false, false, false] rfl rfl (any_of HT_.out (by kernel_rfl)) (fun _ _ _ h => h) (Or.inl ⟨by rfl, ?_⟩) ?_ ?_
 rotate_left
 {
 intro w'
 go_simp
 with_reducible rfl
 }
 rotate_left
 {
 simp only [Act.put, List.setIfInBounds_toArray, List.set_cons_zero, List.set_cons_succ, i64_w, i32_w]
 rfl
 }
 refine pure_ (i := 4) (N := some 124) (v := ?_) (a' := ?_) #[true, false, true, true, true, false, false, false, false, false, false] rfl rfl (any_of HT_.out (by kernel_rfl)) (fun _ _ _ h => h) (Or.inl ⟨by rfl, ?_⟩) ?_ ?_
 rotate_left
 {
 intro w'
 go_simp
 with_reducible rfl
 }
 rotate_left
 {
 simp only [Act.put, List.setIfInBounds_toArray, List.set_cons_zero, List.set_cons_succ, i64_w, i32_w]
 rfl
 }
 refine pure_ (i := 5) (N := some 125) (v := ?_) (a' := ?_) #[true, false, true, true, true, true, false, false, false, false, false] rfl rfl (any_of HT_.out (by kernel_rfl)) (fun _ _ _ h => h) (Or.inl ⟨by rfl, ?_⟩) ?_ ?_
 rotate_left
 {
 intro w'
 go_simp
 with_reducible rfl
 }
 rotate_left
 {
 simp only [Act.put, List.setIfInBounds_toArray, List.set_cons_zero, List.set_cons_succ, i64_w, i32_w]
 rfl
 }
 refine take_ (i := 1) (N := some 121) (v := ?_) (a' := ?_) #[true, true, true, true, true, true, false, false, false, false, false] rfl rfl (take_ofW HT_.out HW_.out (by kernel_rfl)) (fun _ _ _ h => h) (Or.inl ⟨by rfl, ?_⟩) hHeld ?_ ?_
 rotate_left
 {
 rintro w' ⟨s0, s1, s2, s3, s4, s5⟩
 go_simp
 with_reducible rfl
 }
 rotate_left
 {
 simp only [Act.put, List.setIfInBounds_toArray, List.set_cons_zero, List.set_cons_succ, i64_w, i32_w]
 rfl
 }
 refine take_ (i := 6) (N := some 126) (v := ?_) (a' := ?_) #[true, true, true, true, true, true, true, false, false, false, false] rfl rfl (take_ofW HT_.out HW_.out (by kernel_rfl)) (fun _ _ _ h => h) (Or.inl ⟨by rfl, ?_⟩) hHeld ?_ ?_
 rotate_left
 {
 rintro w' ⟨s0, s1, s2, s3, s4, s5⟩
 go_simp
 with_reducible rfl
 }
 rotate_left
 {
 simp only [Act.put, List.setIfInBounds_toArray, List.set_cons_zero, List.set_cons_succ, i64_w, i32_w]
 rfl
 }
 refine one_ (i := 7) (N := some 127) #[true, true, true, true, true, true, true, true, false, false, false] rfl rfl (one_of HT_.out (by kernel_rfl)) (by decide) (fun K hK => ?_)
 refine value_ (w1 := ?_) (v := ?_) (by rfl) rfl ?_ ?_
 rotate_left 2
 {
 go_simp
 constructor
 {
 rfl
 }
 {
 rfl
 }
 }
 refine hK.out _ _ ⟨(blk_cell (blk_alloc BK120.out _) 0).trans rfl, (blk_cell (blk_alloc BK120.out _) 1).trans rfl, (World.cell?_alloc_lt _ _ _ (World.block_lt_of_cell? _ _ (hHeld.2.2.1))).trans (hHeld.2.2.1), (World.cell?_alloc_lt _ _ _ (World.block_lt_of_cell? _ _ (hHeld.2.2.2.1))).trans (hHeld.2.2.2.1), (World.cell?_alloc_lt _ _ _ (World.block_lt_of_cell? _ _ (hHeld.2.2.2.2.1))).trans (hHeld.2.2.2.2.1), (World.cell?_alloc_lt _ _ _ (World.block_lt_of_cell? _ _ (hHeld.2.2.2.2.2))).trans (hHeld.2.2.2.2.2)⟩ (fun hHeld => ?_)
 clear hK K
 refine norm_ (a' := ?_) ?_ ?_
 rotate_left
 {
 show Act.put _ (some 127) _ = _
 simp only [Act.put, List.setIfInBounds_toArray, List.set_cons_zero, List.set_cons_succ, i64_w, i32_w]
 rfl
 }
 refine last_ (i := 8) (N := some 128) #[true, true, true, true, true, true, true, true, true, false, false] rfl rfl (one_of HT_.out (by kernel_rfl)) (by decide) (fun K hK => ?_)
 refine Kd.R_append_step (Kd.int .i64) (w0 := w) w.heap.size (by rfl) (.tmp 121) (.tmp 127) 29 2 (.int .i64 0) 8 rfl Try.underlying29 info2 rfl (by decide) (by omega) u121001 x121001_6 ((rd_T112 y134 x93_6).f1) [.int .i64 ((rd_T112 y134 x93_6).f1)] (fun _ => True) (fun _ => False) rfl rfl ?aP (fun _ hk => hk.elim) ?aF ?aO ?aB ?aS ?aL ?_
 (case aP => exact rfl)
 (case aB => exact wB)
 (case aF => exact (fun _ _ => trivial))
 (case aO => exact (Rh HO_121001))
 (case aS => exact (below_size wB))
 (case aL => have := LMc6011.out; omega)
 intro v137 w7011 ho hb hg hat
 rw [← Ny136.out] at ho
 have n0_ := Aside0.mk (Kd.R_over' (Rh HO_10) (Kd.R_typed (Rh HO_121001)) (by decide) hg)
 have n1_ := Aside0.mk (Kd.S_after (ok := (fun k_ => k_ ≠ gb120)) (Kd.S_mono (Sh HO_13) (fun _ hk => ⟨hk.2, hk.1⟩)) hg hat)
 have n2_ := Aside0.mk (blk_grown (Bh BK120) hg (Kd.R_ne HO_121001.out BK120.out (by decide)))
 have n3_ := Aside0.mk (blk_grown (Bh BK128) hg (Kd.R_ne HO_121001.out BK128.out (by decide)))
 have n4_ := Aside0.mk (hb)
 have n5_ := Aside0.mk (ho)
 clear HO_10
 clear HO_13
 clear BK120
 clear BK128
 clear HB
 clear HO_121001
 have HO_10 := n0_
 have HO_13 := n1_
 have BK120 := n2_
 have BK128 := n3_
 have HB := n4_
 have HO138 := n5_
 clear n0_ n1_ n2_ n3_ n4_ n5_
 clear ho hb hg hat
 obtain ⟨Ao7012, co7012, eo7012⟩ := Kd.R_slice HO138.out
 (first | subst eo7012 | (injection eo7012 with f1_ f2_ f3_; have f4_ := f1_.symm; have f5_ := f3_.symm; clear f1_ f2_ f3_; subst f4_; subst f5_))
 refine hK.out _ _ ?_
 clear hK K
 refine norm_ (a' := ?_) ?_ ?_
 rotate_left
 {
 show Act.put _ (some 128) _ = _
 simp only [Act.put, List.setIfInBounds_toArray, List.set_cons_zero, List.set_cons_succ, i64_w, i32_w]
 rfl
 }
 refine pure_ (i := 9) (N := some 129) (v := ?_) (a' := ?_) #[true, true, true, true, true, true, true, true, true, true, false] rfl rfl (any_of HT_.out (by kernel_rfl)) (fun _ _ _ h => h) (Or.inl ⟨by rfl, ?_⟩) ?_ ?_
 rotate_left
 {
 intro w'
 go_simp
 with_reducible rfl
 }
 rotate_left
 {
 simp only [Act.put, List.setIfInBounds_toArray, List.set_cons_zero, List.set_cons_succ, i64_w, i32_w]
 rfl
 }
 refine last_ (i := 10) (N := none) #[true, true, true, true, true, true, true, true, true, true, true] rfl rfl (one_of HT_.out (by kernel_rfl)) (by decide) (fun K hK => ?_)
 have hs7013 : w7011.cell? ⟨gb120, 1, none⟩ = some (u121001) := (blk_cell BK120.out 1).trans rfl
 have hfs7013 := blk_frozen BK120.out 1
 have hns7013_1 := NB128_120.out
 have hms7013_1 := NB120_128.out
 refine skip_ (w1 := ?_) (by rfl) rfl ?_ ?_
 rotate_left
 {
 go_simp
 rfl
 }
 refine hK.out _ _ ?_
 clear hK K
 refine done_ (done_of HT_.out (by kernel_rfl)) ?_
 try go_wp2
 (try simp only [← hl10_6])
 go_roundg k6
 case measure => have := HJ4.out; have := HK2.out; have := HJ2006.out; have := HK4.out; have := HK5.out; have := HK6.out; omega
 case rel => exact ⟨(y134), (wrap64 (x93_6 + 1)), (y136), (.slice Ao7012 y136.length co7012), (by first | rfl | (simp; done) | (simp [*]; done)), H', ⟨by have := HJ4.out; have := HK2.out; have := HJ2006.out; have := HK4.out; have := HK5.out; have := HK6.out; omega⟩, ⟨by (try simp only [hl10_6]); (with_reducible repeat (first | apply Kd.R_alloc | apply Kd.R_drewN | apply Kd.R_drew)); exact Kd.R_mono (Kd.R_far (p := ⟨gb120, 1, none⟩) (Kd.R_types HO_10.out BK120.out (by decide)) (fun _ hk => hk.2) (.slice Ao7012 y136.length co7012)) (fun _ hk => trivial)⟩, ⟨by (try simp only [hl10_6]); (with_reducible repeat (first | apply Kd.S_alloc | apply Kd.S_drewN | apply Kd.S_drew)); exact Kd.S_mono (Kd.S_far (p := ⟨gb120, 1, none⟩) (Kd.S_mono HO_13.out (fun k_ hk => (⟨hk, hk.1⟩ : _ ∧ k_ ≠ gb120))) (fun _ hk => hk.2) (.slice Ao7012 y136.length co7012)) (fun _ hk => ⟨hk.1.2, hk.1.1⟩)⟩, ⟨by (try simp only [hl10_6]); (with_reducible repeat (first | apply Kd.R_alloc | apply Kd.R_drewN | apply Kd.R_drew)); exact Kd.R_mono (Kd.R_far (p := ⟨gb120, 1, none⟩) (Kd.R_types HO138.out BK120.out (by decide)) (fun _ hk => hk.2) (.slice Ao7012 y136.length co7012)) (fun _ hk => trivial)⟩, ⟨by (try simp only [hl10_6]); (with_reducible repeat (first | refine blk_drewN ?_ _ | refine blk_drew ?_ | refine blk_alloc ?_ _)); refine blk_put (cs := #[.bool true, u121001]) ?_ 1 _ rfl; (with_reducible repeat (first | refine blk_drewN ?_ _ | refine blk_drew ?_ | refine blk_alloc ?_ _)); exact BK120.out⟩, ⟨wB⟩⟩
 }
 {
 try go_wp2_with (first | ((with_reducible refine gate_dst (N := 19) rfl ?_); (try (refine gate_guard (by rfl) ?_; dsimp only)); refine box_event ?hg (N := 19) ?hd (cs := #[.int .i64 0, .int .i64 0, .int .i64 0, .int .i64 0]) (t := 112) ?hr ?_; (case hd => rfl); (case hg => rfl); (case hr => first | (go_simp; done) | (go_simp; rfl)); intro gb128 hg w7001 hbox hb; have n0_ := Aside0.mk (Kd.R_below (Kd.R_elderB (Rh HO_10) gb128 (Nat.le_of_eq hg.symm)) hb); have n1_ := Aside0.mk (Kd.S_below (Sh HO_13) hb); have n2_ := Aside0.mk (Kd.R_below (Rh HO_121001) hb); have n3_ := Aside0.mk (blk_below (Bh BK120) hb); have n4_ := Aside0.mk (below_step wB hb); have n5_ := Aside0.mk (hbox); have n6_ := Aside0.mk ((by rw [hg]; exact (below_size wB) : w.heap.size ≤ gb128)); have n7_ := Aside0.mk ((by rw [hg]; exact (below_size wB) : w.heap.size ≤ gb128)); have n8_ := Aside0.mk ((by rw [hg]; exact Nat.ne_of_lt (blk_lt (Bh BK120)) : gb120 ≠ gb128)); have n9_ := Aside0.mk ((by rw [hg]; exact Nat.ne_of_gt (blk_lt (Bh BK120)) : gb128 ≠ gb120)); clear HO_10; clear HO_13; clear HO_121001; clear BK120; clear HB; have HO_10 := n0_; have HO_13 := n1_; have HO_121001 := n2_; have BK120 := n3_; have HB := n4_; have BK128 := n5_; have GW128 := n6_; have GE128 := n7_; have NB120_128 := n8_; have NB128_120 := n9_; clear n0_ n1_ n2_ n3_ n4_ n5_ n6_ n7_ n8_ n9_; clear hb hbox hg; have hnb7002 := NB128_120.out; have hnc7002 := NB120_128.out; obtain ⟨⟨hcz7003_0, hcz7003_1, hcz7003_2, hcz7003_3⟩, hfz7003_0, hfz7003_1, hfz7003_2, hfz7003_3⟩ := cells4 BK128.out) | ((with_reducible refine gate_store (t := 112) (p := 19) rfl ?_); (try (rw [drewN_self w7001]; generalize hq_ : World.drewN w7001 _ = w7001; have n0_ := Aside0.mk (Kd.R_at hq_ HO_10.out); have n1_ := Aside0.mk (Kd.S_at hq_ HO_13.out); have n2_ := Aside0.mk (Kd.R_at hq_ HO_121001.out); have n3_ := Aside0.mk (blk_at hq_ BK120.out); have n4_ := Aside0.mk (blk_at hq_ BK128.out); have n5_ := Aside0.mk (below_at hq_ HB.out); clear hq_ HO_10 HO_13 HO_121001 BK120 BK128 HB; have HO_10 := n0_; have HO_13 := n1_; have HO_121001 := n2_; have BK120 := n3_; have BK128 := n4_; have HB := n5_; clear n0_ n1_ n2_ n3_ n4_ n5_; (try (obtain ⟨⟨hcyBK120_0, hcyBK120_1⟩, hfyBK120_0, hfyBK120_1⟩ := cells2 BK120.out)); (try (obtain ⟨⟨hcyBK128_0, hcyBK128_1, hcyBK128_2, hcyBK128_3⟩, hfyBK128_0, hfyBK128_1, hfyBK128_2, hfyBK128_3⟩ := cells4 BK128.out)))); refine store_event (t := 112) (p := 19) (v := ?_) (w1 := ((((w7001.setCell ⟨gb128, 0, none⟩ (.int .i64 ((rd_T112 x10_6 x93_6).f0))).setCell ⟨gb128, 1, none⟩ (.int .i64 ((rd_T112 x10_6 x93_6).f1))).setCell ⟨gb128, 2, none⟩ (.int .i64 ((rd_T112 x10_6 x93_6).f2))).setCell ⟨gb128, 3, none⟩ (.int .i64 ((rd_T112 x10_6 x93_6).f3)))) ?hg ?ho ?hn ?hr ?_; (case ho => rfl); (case hg => rfl); (case hn => rfl); (case hr => first | (go_simp; done) | (go_simp; rfl)); intro w7004 hw; have n0_ : Aside0 (Kd.R k112 112 w7004 w.heap.size (fun k_ => k_ ≠ gb128) (.slice (some ad127) x10_6.length co5001) x10_6) := ⟨(by rw [hw]; exact (by (with_reducible repeat (first | apply Kd.R_alloc | apply Kd.R_drewN | apply Kd.R_drew)); exact Kd.R_mono (Kd.R_far (p := ⟨gb128, 3, none⟩) (Kd.R_far (p := ⟨gb128, 2, none⟩) (Kd.R_far (p := ⟨gb128, 1, none⟩) (Kd.R_far (p := ⟨gb128, 0, none⟩) (Kd.R_mono HO_10.out (fun k_ hk => (⟨hk, hk.2⟩ : _ ∧ k_ ≠ gb128))) (fun _ hk => hk.2) (.int .i64 ((rd_T112 x10_6 x93_6).f0))) (fun _ hk => hk.2) (.int .i64 ((rd_T112 x10_6 x93_6).f1))) (fun _ hk => hk.2) (.int .i64 ((rd_T112 x10_6 x93_6).f2))) (fun _ hk => hk.2) (.int .i64 ((rd_T112 x10_6 x93_6).f3))) (fun _ hk => hk.1.2)))⟩; have n1_ : Aside0 (Kd.S k35 35 w7004 w.heap.size (fun k_ => some k_ ≠ (u121001 : Value).ownBlock ∧ k_ ≠ gb120) u13 x13_4) := ⟨(by rw [hw]; exact (by (with_reducible repeat (first | apply Kd.S_alloc | apply Kd.S_drewN | apply Kd.S_drew)); exact Kd.S_mono (Kd.S_far (p := ⟨gb128, 3, none⟩) (Kd.S_far (p := ⟨gb128, 2, none⟩) (Kd.S_far (p := ⟨gb128, 1, none⟩) (Kd.S_far (p := ⟨gb128, 0, none⟩) (Kd.S_types HO_13.out BK128.out (by decide)) (fun _ hk => hk.2) (.int .i64 ((rd_T112 x10_6 x93_6).f0))) (fun _ hk => hk.2) (.int .i64 ((rd_T112 x10_6 x93_6).f1))) (fun _ hk => hk.2) (.int .i64 ((rd_T112 x10_6 x93_6).f2))) (fun _ hk => hk.2) (.int .i64 ((rd_T112 x10_6 x93_6).f3))) (fun _ hk => ⟨hk.1.1, hk.1.2⟩)))⟩; have n2_ : Aside0 (Kd.R (Kd.int .i64) 2 w7004 w.heap.size (fun _ => True) u121001 x121001_6) := ⟨(by rw [hw]; exact (by (with_reducible repeat (first | apply Kd.R_alloc | apply Kd.R_drewN | apply Kd.R_drew)); exact Kd.R_mono (Kd.R_far (p := ⟨gb128, 3, none⟩) (Kd.R_far (p := ⟨gb128, 2, none⟩) (Kd.R_far (p := ⟨gb128, 1, none⟩) (Kd.R_far (p := ⟨gb128, 0, none⟩) (Kd.R_types HO_121001.out BK128.out (by decide)) (fun _ hk => hk.2) (.int .i64 ((rd_T112 x10_6 x93_6).f0))) (fun _ hk => hk.2) (.int .i64 ((rd_T112 x10_6 x93_6).f1))) (fun _ hk => hk.2) (.int .i64 ((rd_T112 x10_6 x93_6).f2))) (fun _ hk => hk.2) (.int .i64 ((rd_T112 x10_6 x93_6).f3))) (fun _ hk => trivial)))⟩; have n3_ : Aside0 (w7004.heap[gb120]? = some (.cells #[.bool false, u121001] 35 (0, 0))) := ⟨(by rw [hw]; exact (by (with_reducible repeat (first | refine blk_drewN ?_ _ | refine blk_drew ?_ | refine blk_alloc ?_ _)); refine blk_far ?_ NB120_128.out _; (with_reducible repeat (first | refine blk_drewN ?_ _ | refine blk_drew ?_ | refine blk_alloc ?_ _)); refine blk_far ?_ NB120_128.out _; (with_reducible repeat (first | refine blk_drewN ?_ _ | refine blk_drew ?_ | refine blk_alloc ?_ _)); refine blk_far ?_ NB120_128.out _; (with_reducible repeat (first | refine blk_drewN ?_ _ | refine blk_drew ?_ | refine blk_alloc ?_ _)); refine blk_far ?_ NB120_128.out _; (with_reducible repeat (first | refine blk_drewN ?_ _ | refine blk_drew ?_ | refine blk_alloc ?_ _)); exact BK120.out))⟩; have n4_ : Aside0 (w7004.heap[gb128]? = some (.cells #[.int .i64 ((rd_T112 x10_6 x93_6).f0), .int .i64 ((rd_T112 x10_6 x93_6).f1), .int .i64 ((rd_T112 x10_6 x93_6).f2), .int .i64 ((rd_T112 x10_6 x93_6).f3)] 112 (0, 0))) := ⟨(by rw [hw]; exact (by (with_reducible repeat (first | refine blk_drewN ?_ _ | refine blk_drew ?_ | refine blk_alloc ?_ _)); refine blk_put (cs := #[.int .i64 ((rd_T112 x10_6 x93_6).f0), .int .i64 ((rd_T112 x10_6 x93_6).f1), .int .i64 ((rd_T112 x10_6 x93_6).f2), .int .i64 0]) ?_ 3 _ rfl; (with_reducible repeat (first | refine blk_drewN ?_ _ | refine blk_drew ?_ | refine blk_alloc ?_ _)); refine blk_put (cs := #[.int .i64 ((rd_T112 x10_6 x93_6).f0), .int .i64 ((rd_T112 x10_6 x93_6).f1), .int .i64 0, .int .i64 0]) ?_ 2 _ rfl; (with_reducible repeat (first | refine blk_drewN ?_ _ | refine blk_drew ?_ | refine blk_alloc ?_ _)); refine blk_put (cs := #[.int .i64 ((rd_T112 x10_6 x93_6).f0), .int .i64 0, .int .i64 0, .int .i64 0]) ?_ 1 _ rfl; (with_reducible repeat (first | refine blk_drewN ?_ _ | refine blk_drew ?_ | refine blk_alloc ?_ _)); refine blk_put (cs := #[.int .i64 0, .int .i64 0, .int .i64 0, .int .i64 0]) ?_ 0 _ rfl; (with_reducible repeat (first | refine blk_drewN ?_ _ | refine blk_drew ?_ | refine blk_alloc ?_ _)); exact BK128.out))⟩; have n5_ : Aside0 (Below w.heap.size w w7004) := ⟨(by rw [hw]; exact wB)⟩; clear hw; clear HO_10; clear HO_13; clear HO_121001; clear BK120; clear BK128; clear HB; have HO_10 := n0_; have HO_13 := n1_; have HO_121001 := n2_; have BK120 := n3_; have BK128 := n4_; have HB := n5_; clear n0_ n1_ n2_ n3_ n4_ n5_; obtain ⟨⟨hcz7005_0, hcz7005_1⟩, hfz7005_0, hfz7005_1⟩ := cells2 BK120.out; obtain ⟨⟨hcz7006_0, hcz7006_1, hcz7006_2, hcz7006_3⟩, hfz7006_0, hfz7006_1, hfz7006_2, hfz7006_3⟩ := cells4 BK128.out) | ((with_reducible refine gate_callee (f := 67) rfl ?_); refine goesL_ (some 116) rfl rfl Try.func67 (by kernel_rfl) rfl #[.agg #[.int .i64 ((rd_T112 x10_6 x93_6).f0), .int .i64 ((rd_T112 x10_6 x93_6).f1), .int .i64 ((rd_T112 x10_6 x93_6).f2), .int .i64 ((rd_T112 x10_6 x93_6).f3)], .int .i64 ((rd_T112 x10_6 x93_6).f1)] rfl wT ?_; (with_reducible refine (impl_CongAck.calls k6 ((rd_T112 x10_6 x93_6).f0) ((rd_T112 x10_6 x93_6).f1) ((rd_T112 x10_6 x93_6).f2) ((rd_T112 x10_6 x93_6).f3) ((rd_T112 x10_6 x93_6).f1) t139 t140 t141 t142 t143 _ A6012.out).mono ?_); rintro e w7007 ⟨rfl, hb⟩; refine ⟨_, rfl, ?_⟩; have n0_ := Aside0.mk (Kd.R_below (Rh HO_10) hb); have n1_ := Aside0.mk (Kd.S_below (Sh HO_13) hb); have n2_ := Aside0.mk (Kd.R_below (Rh HO_121001) hb); have n3_ := Aside0.mk (blk_below (Bh BK120) hb); have n4_ := Aside0.mk (blk_below (Bh BK128) hb); have n5_ := Aside0.mk (below_step wB hb); clear HO_10; clear HO_13; clear HO_121001; clear BK120; clear BK128; clear HB; have HO_10 := n0_; have HO_13 := n1_; have HO_121001 := n2_; have BK120 := n3_; have BK128 := n4_; have HB := n5_; clear n0_ n1_ n2_ n3_ n4_ n5_; (try clear hb); (try clear hb2); (try clear hk); (try clear hi); have p6013 : 0 ≤ (x93_6 : Int) := of_decide_eq_true (by first | (with_reducible assumption) | assumption); have q6013 : (x93_6 : Int) < ((x10_6.length : Int) : Int) := of_decide_eq_true (by first | (with_reducible assumption) | assumption); obtain ⟨go6013, co6013, eo6013, gb6013, gl6013, cl6013, HG6013⟩ := Kd.R_form HO_10.out (by omega); (first | cases eo6013 | (injection eo6013 with ea_ en_ ec_; (first | subst ea_ | (injection ea_ with ea_; subst ea_)); subst ec_; clear en_)); have GB6013 := Aside0.mk gb6013; have GG6013 := Aside0.mk HG6013; clear gb6013 gl6013 HG6013; (first | simp only [add_plain] at hx127_0 | skip); (first | simp only [add_plain] at hx127_1 | skip); (first | simp only [add_plain] at hx127_2 | skip); (first | simp only [add_plain] at hx127_3 | skip); obtain ⟨ce6013, hcl6013, hM6013, hcc6013, hfr6013⟩ := Kd.R_elem HO_10.out z112 (x93_6 : Int) p6013 q6013; obtain rfl := k112_openM hM6013; have hx6013_0 : w7007.cell? ⟨go6013, (x93_6 : Int).toNat * 4, none⟩ = some (.int .i64 ((rd_T112 x10_6 x93_6).f0)) := hcc6013 0 _ rfl; have hx6013_1 : w7007.cell? ⟨go6013, (x93_6 : Int).toNat * 4 + 1, none⟩ = some (.int .i64 ((rd_T112 x10_6 x93_6).f1)) := hcc6013 1 _ rfl; have hx6013_2 : w7007.cell? ⟨go6013, (x93_6 : Int).toNat * 4 + 2, none⟩ = some (.int .i64 ((rd_T112 x10_6 x93_6).f2)) := hcc6013 2 _ rfl; have hx6013_3 : w7007.cell? ⟨go6013, (x93_6 : Int).toNat * 4 + 3, none⟩ = some (.int .i64 ((rd_T112 x10_6 x93_6).f3)) := hcc6013 3 _ rfl; have hf6013_0 : w7007.frozen? ⟨go6013, (x93_6 : Int).toNat * 4, none⟩ = false := hfr6013 0; have hf6013_1 : w7007.frozen? ⟨go6013, (x93_6 : Int).toNat * 4 + 1, none⟩ = false := hfr6013 1; have hf6013_2 : w7007.frozen? ⟨go6013, (x93_6 : Int).toNat * 4 + 2, none⟩ = false := hfr6013 2; have hf6013_3 : w7007.frozen? ⟨go6013, (x93_6 : Int).toNat * 4 + 3, none⟩ = false := hfr6013 3; clear hcl6013 hcc6013 hfr6013 hM6013; replace p6013 := eq_true p6013; replace q6013 := eq_true q6013; have HX7008 := Aside0.mk (show Kd.R k112 112 w7007 w.heap.size (fun k_ => k_ ≠ gb128) (.slice (some ⟨go6013, 0, none⟩) x10_6.length co5001) x10_6 from (Rh HO_10)); obtain ⟨ce7008, hcl7008, hM7008, hcc7008, hfr7008⟩ := Kd.R_elem HX7008.out z112 (x93_6 : Int) (of_decide_eq_true (by first | (with_reducible assumption) | assumption)) (by have h_ : (x93_6 : Int) < ((x10_6.length : Int) : Int) := of_decide_eq_true (by first | (with_reducible assumption) | assumption); first | exact h_ | (have e_ := (Kd.R_reads' HO_10.out).1; omega) | simpa using h_); obtain rfl := k112_openM hM7008; have HP7008 := Kd.R_seg HX7008.out (x93_6 : Int) (of_decide_eq_true (by first | (with_reducible assumption) | assumption)) (by have h_ : (x93_6 : Int) < ((x10_6.length : Int) : Int) := of_decide_eq_true (by first | (with_reducible assumption) | assumption); first | exact h_ | (have e_ := (Kd.R_reads' HO_10.out).1; omega) | simpa using h_) (seg := [.int .i64 t139, .int .i64 t140, .int .i64 t141, .int .i64 t142]) (j := 0) hcl7008 hcc7008 (show 4 ≤ 4 from by decide) (x' := (⟨t139, t140, t141, t142⟩ : S112)) (k112_mkM _ _ _ (⟨t139, t140, t141, t142⟩ : S112) ) (fun _ hk => hk); have hx7008_0 := hcc7008 0 _ rfl; (try simp only [show (k112).sz = 4 from rfl, Nat.mul_one, Nat.add_zero] at hx7008_0); have hf7008_0 := hfr7008 0; (try simp only [show (k112).sz = 4 from rfl, Nat.mul_one, Nat.add_zero] at hf7008_0); have hx7008_1 := hcc7008 1 _ rfl; (try simp only [show (k112).sz = 4 from rfl, Nat.mul_one, Nat.add_zero] at hx7008_1); have hf7008_1 := hfr7008 1; (try simp only [show (k112).sz = 4 from rfl, Nat.mul_one, Nat.add_zero] at hf7008_1); have hx7008_2 := hcc7008 2 _ rfl; (try simp only [show (k112).sz = 4 from rfl, Nat.mul_one, Nat.add_zero] at hx7008_2); have hf7008_2 := hfr7008 2; (try simp only [show (k112).sz = 4 from rfl, Nat.mul_one, Nat.add_zero] at hf7008_2); have hx7008_3 := hcc7008 3 _ rfl; (try simp only [show (k112).sz = 4 from rfl, Nat.mul_one, Nat.add_zero] at hx7008_3); have hf7008_3 := hfr7008 3; (try simp only [show (k112).sz = 4 from rfl, Nat.mul_one, Nat.add_zero] at hf7008_3); clear hcl7008 hcc7008 hfr7008 hM7008) | ((with_reducible refine gate_store (t := 112) (p := 119) rfl ?_); (try (rw [drewN_self w7007]; generalize hq_ : World.drewN w7007 _ = w7007; have n0_ := Aside0.mk (Kd.R_at hq_ HO_10.out); have n1_ := Aside0.mk (Kd.S_at hq_ HO_13.out); have n2_ := Aside0.mk (Kd.R_at hq_ HO_121001.out); have n3_ := Aside0.mk (blk_at hq_ BK120.out); have n4_ := Aside0.mk (blk_at hq_ BK128.out); have n5_ := Aside0.mk (below_at hq_ HB.out); clear hq_ HO_10 HO_13 HO_121001 BK120 BK128 HB; have HO_10 := n0_; have HO_13 := n1_; have HO_121001 := n2_; have BK120 := n3_; have BK128 := n4_; have HB := n5_; clear n0_ n1_ n2_ n3_ n4_ n5_; (try (obtain ⟨⟨hcyBK120_0, hcyBK120_1⟩, hfyBK120_0, hfyBK120_1⟩ := cells2 BK120.out)); (try (obtain ⟨⟨hcyBK128_0, hcyBK128_1, hcyBK128_2, hcyBK128_3⟩, hfyBK128_0, hfyBK128_1, hfyBK128_2, hfyBK128_3⟩ := cells4 BK128.out)); (try (have HX7008 := Aside0.mk (show Kd.R k112 112 w7007 w.heap.size (fun k_ => k_ ≠ gb128) (.slice (some ⟨go6013, 0, none⟩) x10_6.length co5001) x10_6 from (Rh HO_10)))); (try (obtain ⟨ce7008, hcl7008, hM7008, hcc7008, hfr7008⟩ := Kd.R_elem HX7008.out z112 (x93_6 : Int) (of_decide_eq_true (by first | (with_reducible assumption) | assumption)) (by have h_ : (x93_6 : Int) < ((x10_6.length : Int) : Int) := of_decide_eq_true (by first | (with_reducible assumption) | assumption); first | exact h_ | (have e_ := (Kd.R_reads' HO_10.out).1; omega) | simpa using h_))); (try (obtain rfl := k112_openM hM7008)); (try (have HP7008 := Kd.R_seg HX7008.out (x93_6 : Int) (of_decide_eq_true (by first | (with_reducible assumption) | assumption)) (by have h_ : (x93_6 : Int) < ((x10_6.length : Int) : Int) := of_decide_eq_true (by first | (with_reducible assumption) | assumption); first | exact h_ | (have e_ := (Kd.R_reads' HO_10.out).1; omega) | simpa using h_) (seg := [.int .i64 t139, .int .i64 t140, .int .i64 t141, .int .i64 t142]) (j := 0) hcl7008 hcc7008 (show 4 ≤ 4 from by decide) (x' := (⟨t139, t140, t141, t142⟩ : S112)) (k112_mkM _ _ _ (⟨t139, t140, t141, t142⟩ : S112) ) (fun _ hk => hk))); (try (have hx7008_0 := hcc7008 0 _ rfl)); (try (try simp only [show (k112).sz = 4 from rfl, Nat.mul_one, Nat.add_zero] at hx7008_0)); (try (have hf7008_0 := hfr7008 0)); (try (try simp only [show (k112).sz = 4 from rfl, Nat.mul_one, Nat.add_zero] at hf7008_0)); (try (have hx7008_1 := hcc7008 1 _ rfl)); (try (try simp only [show (k112).sz = 4 from rfl, Nat.mul_one, Nat.add_zero] at hx7008_1)); (try (have hf7008_1 := hfr7008 1)); (try (try simp only [show (k112).sz = 4 from rfl, Nat.mul_one, Nat.add_zero] at hf7008_1)); (try (have hx7008_2 := hcc7008 2 _ rfl)); (try (try simp only [show (k112).sz = 4 from rfl, Nat.mul_one, Nat.add_zero] at hx7008_2)); (try (have hf7008_2 := hfr7008 2)); (try (try simp only [show (k112).sz = 4 from rfl, Nat.mul_one, Nat.add_zero] at hf7008_2)); (try (have hx7008_3 := hcc7008 3 _ rfl)); (try (try simp only [show (k112).sz = 4 from rfl, Nat.mul_one, Nat.add_zero] at hx7008_3)); (try (have hf7008_3 := hfr7008 3)); (try (try simp only [show (k112).sz = 4 from rfl, Nat.mul_one, Nat.add_zero] at hf7008_3)); (try (clear hcl7008 hcc7008 hfr7008 hM7008)))); refine store_event (t := 112) (p := 119) (v := ?_) (w1 := ((((w7007.setCell ⟨go6013, (x93_6 : Int).toNat * 4, none⟩ (.int .i64 t139)).setCell ⟨go6013, (x93_6 : Int).toNat * 4 + 1, none⟩ (.int .i64 t140)).setCell ⟨go6013, (x93_6 : Int).toNat * 4 + 2, none⟩ (.int .i64 t141)).setCell ⟨go6013, (x93_6 : Int).toNat * 4 + 3, none⟩ (.int .i64 t142))) ?hg ?ho ?hn ?hr ?_; (case ho => rfl); (case hg => rfl); (case hn => rfl); (case hr => first | (go_simp; done) | (go_simp; rfl)); intro w7009 hw; have hg : w7007.grownBy w7009 (some go6013) := (by rw [hw]; exact HP7008.2); have hp_ : Kd.R k112 112 w7009 w.heap.size (fun k_ => k_ ≠ gb128) (.slice (some ⟨go6013, 0, none⟩) x10_6.length co5001) y144 := (by rw [hw, Ny144.out]; exact HP7008.1); clear HP7008; have n0_ := Aside0.mk (hp_); have n1_ := Aside0.mk (Kd.S_over' (v := (.slice (some ⟨go6013, 0, none⟩) x10_6.length co5001)) (Sh HO_13) (Kd.R_typed HO_10.out) (by decide) hg); have n2_ := Aside0.mk (Kd.R_over' (v := (.slice (some ⟨go6013, 0, none⟩) x10_6.length co5001)) (Rh HO_121001) (Kd.R_typed HO_10.out) (by decide) hg); have n3_ := Aside0.mk (blk_grown (Bh BK120) hg (Kd.R_ne HO_10.out BK120.out (by decide))); have n4_ := Aside0.mk (blk_grown (Bh BK128) hg (Kd.R_away HO_10.out (fun _ hk => hk))); have n5_ := Aside0.mk ((by rw [hw]; exact below_set (below_set (below_set (below_set (HB.out) GB6013.out) GB6013.out) GB6013.out) GB6013.out : Below w.heap.size w w7009)); clear HO_10; clear HO_13; clear HO_121001; clear BK120; clear BK128; clear HB; have HO_10 := n0_; have HO_13 := n1_; have HO_121001 := n2_; have BK120 := n3_; have BK128 := n4_; have HB := n5_; clear n0_ n1_ n2_ n3_ n4_ n5_; clear hg hw hp_))
 have n0_ := Aside0.mk (Kd.R_drew HO_10.out)
 have n1_ := Aside0.mk (Kd.S_drew HO_13.out)
 have n2_ := Aside0.mk (Kd.R_drew HO_121001.out)
 have n3_ := Aside0.mk (blk_drew BK120.out)
 have n4_ := Aside0.mk (blk_drew BK128.out)
 have n5_ := Aside0.mk (below_drew1 HB.out)
 clear HO_10
 clear HO_13
 clear HO_121001
 clear BK120
 clear BK128
 clear HB
 have HO_10 := n0_
 have HO_13 := n1_
 have HO_121001 := n2_
 have BK120 := n3_
 have BK128 := n4_
 have HB := n5_
 clear n0_ n1_ n2_ n3_ n4_ n5_
 have p145 : 0 ≤ (x93_6 : Int) := of_decide_eq_true (by first | (with_reducible assumption) | assumption)
 have q145 : x93_6 < (y144.length : Int) := (by have h_ : (x93_6 : Int) < ((x10_6.length : Int) : Int) := of_decide_eq_true (by first | (with_reducible assumption) | assumption); first | (have e_ := (Kd.R_reads' HO_10.out).1; omega) | simpa only [Ny144.out, List.length_set] using h_)
 have ql145 : ((x93_6 : Int) < ((x10_6.length : Int) : Int)) = True := eq_true (of_decide_eq_true (by first | (with_reducible assumption) | assumption))
 obtain ⟨ad145, e145, hx145_0, hx145_1, hx145_2, hx145_3⟩ := at_T112 (Kd.R_reads' HO_10.out).2.2 x93_6 p145 q145
 obtain rfl : (⟨go6013, 0, none⟩ : Addr) = ad145 := (by injection e145)
 (first | simp only [add_plain] at hx145_0 | simp only [add_at] at hx145_0 | simp only [Addr.add, Nat.zero_add] at hx145_0 | skip)
 (first | simp only [add_plain] at hx145_1 | simp only [add_at] at hx145_1 | simp only [Addr.add, Nat.zero_add] at hx145_1 | skip)
 (first | simp only [add_plain] at hx145_2 | simp only [add_at] at hx145_2 | simp only [Addr.add, Nat.zero_add] at hx145_2 | skip)
 (first | simp only [add_plain] at hx145_3 | simp only [add_at] at hx145_3 | simp only [Addr.add, Nat.zero_add] at hx145_3 | skip)
 replace p145 := eq_true p145
 replace q145 := eq_true q145
 refine start_ (n := 11) (S := fun w' => w'.cell? ⟨gb120, 0, none⟩ = some (.bool false) ∧ w'.cell? ⟨gb120, 1, none⟩ = some (u121001) ∧ w'.cell? ⟨go6013, (x93_6).toNat * 4, none⟩ = some (.int .i64 ((rd_T112 y144 x93_6).f0)) ∧ w'.cell? ⟨go6013, (x93_6).toNat * 4 + 1, none⟩ = some (.int .i64 ((rd_T112 y144 x93_6).f1)) ∧ w'.cell? ⟨go6013, (x93_6).toNat * 4 + 2, none⟩ = some (.int .i64 ((rd_T112 y144 x93_6).f2)) ∧ w'.cell? ⟨go6013, (x93_6).toNat * 4 + 3, none⟩ = some (.int .i64 ((rd_T112 y144 x93_6).f3))) (ds := [8, 10]) #[false, false, false, false, false, false, false, false, false, false, false] (by kernel_rfl) rfl rfl ⟨(blk_cell BK120.out 0).trans rfl, (blk_cell BK120.out 1).trans rfl, hx145_0, hx145_1, hx145_2, hx145_3⟩ (fun hHeld => ?_); refine with_tabW impl_Share.tab29 impl_Share.bits29 (fun HT_ HW_ => ?_)
 generalize w7009.drew = w7010 at HO_10 HO_13 HO_121001 BK120 BK128 HB hx145_0 hx145_1 hx145_2 hx145_3 hHeld ⊢
 refine pure_ (i := 0) (N := some 120) (v := ?_) (a' := ?_) #[true, false, false, false, false, false, false, false, false, false, false] rfl rfl (any_of HT_.out (by kernel_rfl)) (fun _ _ _ h => h) (Or.inl ⟨by rfl, ?_⟩) ?_ ?_
 rotate_left
 {
 intro w'
 go_simp
 with_reducible rfl
 }
 rotate_left
 {
 simp only [Act.put, List.setIfInBounds_toArray, List.set_cons_zero, List.set_cons_succ, i64_w, i32_w]
 rfl
 }
 refine pure_ (i := 2) (N := some 122) (v := ?_) (a' := ?_) #[true, false, true, false, false, false, false, false, false, false, false] rfl rfl (any_of HT_.out (by kernel_rfl)) (fun _ _ _ h => h) (Or.inl ⟨by rfl, ?_⟩) ?_ ?_
 rotate_left
 {
 intro w'
 go_simp
 with_reducible rfl
 }
 rotate_left
 {
 simp only [Act.put, List.setIfInBounds_toArray, List.set_cons_zero, List.set_cons_succ, i64_w, i32_w]
 rfl
 }
 refine pure_ (i := 3) (N := some 123) (v := ?_) (a' := ?_) #[true, false, true, true, false, false, false, false, false, false, false] rfl rfl (any_of HT_.out (by kernel_rfl)) (fun _ _ _ h => h) (Or.inl ⟨by rfl, ?_⟩) ?_ ?_
 rotate_left
 {
 intro w'
 go_simp
 with_reducible rfl
 }
 rotate_left
 {
 simp only [Act.put, List.setIfInBounds_toArray, List.set_cons_zero, List.set_cons_succ, i64_w, i32_w]
 rfl
 }
 refine pure_ (i := 4) (N := some 124) (v := ?_) (a' := ?_) #[true, false, true, true, true, false, false, false, false, false, false] rfl rfl (any_of HT_.out (by kernel_rfl)) (fun _ _ _ h => h) (Or.inl ⟨by rfl, ?_⟩) ?_ ?_
 rotate_left
 {
 intro w'
 go_simp
 with_reducible rfl
 }
 rotate_left
 {
 simp only [Act.put, List.setIfInBounds_toArray, List.set_cons_zero, List.set_cons_succ, i64_w, i32_w]
 rfl
 }
 refine pure_ (i := 5) (N := some 125) (v := ?_) (a' := ?_) #[true, false, true, true, true, true, false, false, false, false, false] rfl rfl (any_of HT_.out (by kernel_rfl)) (fun _ _ _ h => h) (Or.inl ⟨by rfl, ?_⟩) ?_ ?_
 rotate_left
 {
 intro w'
 go_simp
 with_reducible rfl
 }
 rotate_left
 {
 simp only [Act.put, List.setIfInBounds_toArray, List.set_cons_zero, List.set_cons_succ, i64_w, i32_w]
 rfl
 }
 refine take_ (i := 1) (N := some 121) (v := ?_) (a' := ?_) #[true, true, true, true, true, true, false, false, false, false, false] rfl rfl (take_ofW HT_.out HW_.out (by kernel_rfl)) (fun _ _ _ h => h) (Or.inl ⟨by rfl, ?_⟩) hHeld ?_ ?_
 rotate_left
 {
 rintro w' ⟨s0, s1, s2, s3, s4, s5⟩
 go_simp
 with_reducible rfl
 }
 rotate_left
 {
 simp only [Act.put, List.setIfInBounds_toArray, List.set_cons_zero, List.set_cons_succ, i64_w, i32_w]
 rfl
 }
 refine take_ (i := 6) (N := some 126) (v := ?_) (a' := ?_) #[true, true, true, true, true, true, true, false, false, false, false] rfl rfl (take_ofW HT_.out HW_.out (by kernel_rfl)) (fun _ _ _ h => h) (Or.inl ⟨by rfl, ?_⟩) hHeld ?_ ?_
 rotate_left
 {
 rintro w' ⟨s0, s1, s2, s3, s4, s5⟩
 go_simp
 with_reducible rfl
 }
 rotate_left
 {
 simp only [Act.put, List.setIfInBounds_toArray, List.set_cons_zero, List.set_cons_succ, i64_w, i32_w]
 rfl
 }
 refine one_ (i := 7) (N := some 127) #[true, true, true, true, true, true, true, true, false, false, false] rfl rfl (one_of HT_.out (by kernel_rfl)) (by decide) (fun K hK => ?_)
 refine value_ (w1 := ?_) (v := ?_) (by rfl) rfl ?_ ?_
 rotate_left 2
 {
 go_simp
 constructor
 {
 rfl
 }
 {
 rfl
 }
 }
 refine hK.out _ _ ⟨(blk_cell (blk_alloc BK120.out _) 0).trans rfl, (blk_cell (blk_alloc BK120.out _) 1).trans rfl, (World.cell?_alloc_lt _ _ _ (World.block_lt_of_cell? _ _ (hHeld.2.2.1))).trans (hHeld.2.2.1), (World.cell?_alloc_lt _ _ _ (World.block_lt_of_cell? _ _ (hHeld.2.2.2.1))).trans (hHeld.2.2.2.1), (World.cell?_alloc_lt _ _ _ (World.block_lt_of_cell? _ _ (hHeld.2.2.2.2.1))).trans (hHeld.2.2.2.2.1), (World.cell?_alloc_lt _ _ _ (World.block_lt_of_cell? _ _ (hHeld.2.2.2.2.2))).trans (hHeld.2.2.2.2.2)⟩ (fun hHeld => ?_)
 clear hK K
 refine norm_ (a' := ?_) ?_ ?_
 rotate_left
 {
 show Act.put _ (some 127) _ = _
 simp only [Act.put, List.setIfInBounds_toArray, List.set_cons_zero, List.set_cons_succ, i64_w, i32_w]
 rfl
 }
 refine last_ (i := 8) (N := some 128) #[true, true, true, true, true, true, true, true, true, false, false] rfl rfl (one_of HT_.out (by kernel_rfl)) (by decide) (fun K hK => ?_)
 refine Kd.R_append_step (Kd.int .i64) (w0 := w) w.heap.size (by rfl) (.tmp 121) (.tmp 127) 29 2 (.int .i64 0) 8 rfl Try.underlying29 info2 rfl (by decide) (by omega) u121001 x121001_6 ((rd_T112 y144 x93_6).f1) [.int .i64 ((rd_T112 y144 x93_6).f1)] (fun _ => True) (fun _ => False) rfl rfl ?aP (fun _ hk => hk.elim) ?aF ?aO ?aB ?aS ?aL ?_
 (case aP => exact rfl)
 (case aB => exact wB)
 (case aF => exact (fun _ _ => trivial))
 (case aO => exact (Rh HO_121001))
 (case aS => exact (below_size wB))
 (case aL => have := LMc6014.out; omega)
 intro v147 w7011 ho hb hg hat
 rw [← Ny146.out] at ho
 have n0_ := Aside0.mk (Kd.R_over' (Rh HO_10) (Kd.R_typed (Rh HO_121001)) (by decide) hg)
 have n1_ := Aside0.mk (Kd.S_after (ok := (fun k_ => k_ ≠ gb120)) (Kd.S_mono (Sh HO_13) (fun _ hk => ⟨hk.2, hk.1⟩)) hg hat)
 have n2_ := Aside0.mk (blk_grown (Bh BK120) hg (Kd.R_ne HO_121001.out BK120.out (by decide)))
 have n3_ := Aside0.mk (blk_grown (Bh BK128) hg (Kd.R_ne HO_121001.out BK128.out (by decide)))
 have n4_ := Aside0.mk (hb)
 have n5_ := Aside0.mk (ho)
 clear HO_10
 clear HO_13
 clear BK120
 clear BK128
 clear HB
 clear HO_121001
 have HO_10 := n0_
 have HO_13 := n1_
 have BK120 := n2_
 have BK128 := n3_
 have HB := n4_
 have HO148 := n5_
 clear n0_ n1_ n2_ n3_ n4_ n5_
 clear ho hb hg hat
 obtain ⟨Ao7012, co7012, eo7012⟩ := Kd.R_slice HO148.out
 (first | subst eo7012 | (injection eo7012 with f1_ f2_ f3_; have f4_ := f1_.symm; have f5_ := f3_.symm; clear f1_ f2_ f3_; subst f4_; subst f5_))
 refine hK.out _ _ ?_
 clear hK K
 refine norm_ (a' := ?_) ?_ ?_
 rotate_left
 {
 show Act.put _ (some 128) _ = _
 simp only [Act.put, List.setIfInBounds_toArray, List.set_cons_zero, List.set_cons_succ, i64_w, i32_w]
 rfl
 }
 refine pure_ (i := 9) (N := some 129) (v := ?_) (a' := ?_) #[true, true, true, true, true, true, true, true, true, true, false] rfl rfl (any_of HT_.out (by kernel_rfl)) (fun _ _ _ h => h) (Or.inl ⟨by rfl, ?_⟩) ?_ ?_
 rotate_left
 {
 intro w'
 go_simp
 with_reducible rfl
 }
 rotate_left
 {
 simp only [Act.put, List.setIfInBounds_toArray, List.set_cons_zero, List.set_cons_succ, i64_w, i32_w]
 rfl
 }
 refine last_ (i := 10) (N := none) #[true, true, true, true, true, true, true, true, true, true, true] rfl rfl (one_of HT_.out (by kernel_rfl)) (by decide) (fun K hK => ?_)
 have hs7013 : w7011.cell? ⟨gb120, 1, none⟩ = some (u121001) := (blk_cell BK120.out 1).trans rfl
 have hfs7013 := blk_frozen BK120.out 1
 have hns7013_1 := NB128_120.out
 have hms7013_1 := NB120_128.out
 refine skip_ (w1 := ?_) (by rfl) rfl ?_ ?_
 rotate_left
 {
 go_simp
 rfl
 }
 refine hK.out _ _ ?_
 clear hK K
 refine done_ (done_of HT_.out (by kernel_rfl)) ?_
 try go_wp2
 (try simp only [← hl10_6])
 go_roundg k6
 case measure => have := HJ4.out; have := HK2.out; have := HJ2006.out; have := HK4.out; have := HK5.out; have := HK6.out; omega
 case rel => exact ⟨(y144), (wrap64 (x93_6 + 1)), (y146), (.slice Ao7012 y146.length co7012), (by first | rfl | (simp; done) | (simp [*]; done)), H', ⟨by have := HJ4.out; have := HK2.out; have := HJ2006.out; have := HK4.out; have := HK5.out; have := HK6.out; omega⟩, ⟨by (try simp only [hl10_6]); (with_reducible repeat (first | apply Kd.R_alloc | apply Kd.R_drewN | apply Kd.R_drew)); exact Kd.R_mono (Kd.R_far (p := ⟨gb120, 1, none⟩) (Kd.R_types HO_10.out BK120.out (by decide)) (fun _ hk => hk.2) (.slice Ao7012 y146.length co7012)) (fun _ hk => trivial)⟩, ⟨by (try simp only [hl10_6]); (with_reducible repeat (first | apply Kd.S_alloc | apply Kd.S_drewN | apply Kd.S_drew)); exact Kd.S_mono (Kd.S_far (p := ⟨gb120, 1, none⟩) (Kd.S_mono HO_13.out (fun k_ hk => (⟨hk, hk.1⟩ : _ ∧ k_ ≠ gb120))) (fun _ hk => hk.2) (.slice Ao7012 y146.length co7012)) (fun _ hk => ⟨hk.1.2, hk.1.1⟩)⟩, ⟨by (try simp only [hl10_6]); (with_reducible repeat (first | apply Kd.R_alloc | apply Kd.R_drewN | apply Kd.R_drew)); exact Kd.R_mono (Kd.R_far (p := ⟨gb120, 1, none⟩) (Kd.R_types HO148.out BK120.out (by decide)) (fun _ hk => hk.2) (.slice Ao7012 y146.length co7012)) (fun _ hk => trivial)⟩, ⟨by (try simp only [hl10_6]); (with_reducible repeat (first | refine blk_drewN ?_ _ | refine blk_drew ?_ | refine blk_alloc ?_ _)); refine blk_put (cs := #[.bool false, u121001]) ?_ 1 _ rfl; (with_reducible repeat (first | refine blk_drewN ?_ _ | refine blk_drew ?_ | refine blk_alloc ?_ _)); exact BK120.out⟩, ⟨wB⟩⟩
 }
 {
 obtain ⟨⟨hcz7001_0, hcz7001_1⟩, hfz7001_0, hfz7001_1⟩ := cells2 BK120.out
 obtain ⟨Ao7002, co7002, eo7002⟩ := Kd.R_slice HO_121001.out
 subst eo7002
 go_wp2_with (first | ((with_reducible refine gate_callee (f := 68) rfl ?_); refine goesL_ (some 133) rfl rfl Try.func68 (by kernel_rfl) rfl #[.slice Ao7002 x121001_6.length co7002] rfl wT ?_; (with_reducible refine (slices_Clone_int64_int64.calls _ _ x121001_6 t121 _ ?side1 ?side2 A6015.out).mono ?_); (case side1 => exact Ch HO_121001); (case side2 => exact (Kd.R_reads' HO_121001.out).2.1); rintro e w7003 ⟨v122, rfl, ho0, hb⟩; refine ⟨_, rfl, ?_⟩; have n0_ := Aside0.mk (Kd.R_below (Rh HO_10) hb); have n1_ := Aside0.mk (Kd.S_elder' (Sh HO_13) (Kd.R_base ho0) hb); have n2_ := Aside0.mk (Kd.R_elder' (Rh HO_121001) (Kd.R_base ho0) hb); have n3_ := Aside0.mk (Kd.R_lower (Kd.R_new' ho0 (Kd.R_lt (Rh HO_121001))) (below_size wB)); have n4_ := Aside0.mk (blk_below (Bh BK120) hb); have n5_ := Aside0.mk (below_step wB hb); clear HO_10; clear HO_13; clear HO_121001; clear BK120; clear HB; have HO_10 := n0_; have HO_13 := n1_; have HO_121001 := n2_; have HO123 := n3_; have BK120 := n4_; have HB := n5_; clear n0_ n1_ n2_ n3_ n4_ n5_; (try clear hb); (try clear hb2); (try clear hk); (try clear hi); (try clear ho0); obtain ⟨Ao7004, co7004, eo7004⟩ := Kd.R_slice HO123.out; subst eo7004; obtain ⟨⟨hcz7005_0, hcz7005_1⟩, hfz7005_0, hfz7005_1⟩ := cells2 BK120.out) | ((with_reducible refine gate_store (t := 29) (p := 134) rfl ?_); (try (rw [drewN_self w7003]; generalize hq_ : World.drewN w7003 _ = w7003; have n0_ := Aside0.mk (Kd.R_at hq_ HO_10.out); have n1_ := Aside0.mk (Kd.S_at hq_ HO_13.out); have n2_ := Aside0.mk (Kd.R_at hq_ HO_121001.out); have n3_ := Aside0.mk (Kd.R_at hq_ HO123.out); have n4_ := Aside0.mk (blk_at hq_ BK120.out); have n5_ := Aside0.mk (below_at hq_ HB.out); clear hq_ HO_10 HO_13 HO_121001 HO123 BK120 HB; have HO_10 := n0_; have HO_13 := n1_; have HO_121001 := n2_; have HO123 := n3_; have BK120 := n4_; have HB := n5_; clear n0_ n1_ n2_ n3_ n4_ n5_; (try (obtain ⟨⟨hcyBK120_0, hcyBK120_1⟩, hfyBK120_0, hfyBK120_1⟩ := cells2 BK120.out)))); refine store_event (t := 29) (p := 134) (v := ?_) (w1 := (w7003.setCell ⟨gb120, 1, none⟩ (.slice Ao7004 t121.length co7004))) ?hg ?ho ?hn ?hr ?_; (case ho => rfl); (case hg => rfl); (case hn => rfl); (case hr => first | (go_simp; done) | (go_simp; rfl)); intro w7006 hw; have n0_ : Aside0 (Kd.R k112 112 w7006 w.heap.size (fun _ => True) (.slice Ao5001 x10_6.length co5001) x10_6) := ⟨(by rw [hw]; exact (by (with_reducible repeat (first | apply Kd.R_alloc | apply Kd.R_drewN | apply Kd.R_drew)); exact Kd.R_mono (Kd.R_far (p := ⟨gb120, 1, none⟩) (Kd.R_types HO_10.out BK120.out (by decide)) (fun _ hk => hk.2) (.slice Ao7004 t121.length co7004)) (fun _ hk => trivial)))⟩; have n1_ : Aside0 (Kd.S k35 35 w7006 w.heap.size (fun k_ => some k_ ≠ (.slice Ao7002 x121001_6.length co7002 : Value).ownBlock ∧ some k_ ≠ (.slice Ao7004 t121.length co7004 : Value).ownBlock ∧ k_ ≠ gb120) u13 x13_4) := ⟨(by rw [hw]; exact (by (with_reducible repeat (first | apply Kd.S_alloc | apply Kd.S_drewN | apply Kd.S_drew)); exact Kd.S_mono (Kd.S_far (p := ⟨gb120, 1, none⟩) (Kd.S_mono HO_13.out (fun k_ hk => (⟨hk, hk.1.2⟩ : _ ∧ k_ ≠ gb120))) (fun _ hk => hk.2) (.slice Ao7004 t121.length co7004)) (fun _ hk => ⟨hk.1.1.1, ⟨hk.1.2, hk.1.1.2⟩⟩)))⟩; have n2_ : Aside0 (Kd.R (Kd.int .i64) 2 w7006 w.heap.size (fun k_ => some k_ ≠ (.slice Ao7004 t121.length co7004 : Value).ownBlock) (.slice Ao7002 x121001_6.length co7002) x121001_6) := ⟨(by rw [hw]; exact (by (with_reducible repeat (first | apply Kd.R_alloc | apply Kd.R_drewN | apply Kd.R_drew)); exact Kd.R_mono (Kd.R_far (p := ⟨gb120, 1, none⟩) (Kd.R_types HO_121001.out BK120.out (by decide)) (fun _ hk => hk.2) (.slice Ao7004 t121.length co7004)) (fun _ hk => hk.1.2)))⟩; have n3_ : Aside0 (Kd.R (Kd.int .i64) 2 w7006 w.heap.size (fun k_ => some k_ ≠ (.slice Ao7002 x121001_6.length co7002 : Value).ownBlock) (.slice Ao7004 t121.length co7004) t121) := ⟨(by rw [hw]; exact (by (with_reducible repeat (first | apply Kd.R_alloc | apply Kd.R_drewN | apply Kd.R_drew)); exact Kd.R_mono (Kd.R_far (p := ⟨gb120, 1, none⟩) (Kd.R_types HO123.out BK120.out (by decide)) (fun _ hk => hk.2) (.slice Ao7004 t121.length co7004)) (fun _ hk => hk.1.2)))⟩; have n4_ : Aside0 (w7006.heap[gb120]? = some (.cells #[.bool bL6004, .slice Ao7004 t121.length co7004] 35 (0, 0))) := ⟨(by rw [hw]; exact (by (with_reducible repeat (first | refine blk_drewN ?_ _ | refine blk_drew ?_ | refine blk_alloc ?_ _)); refine blk_put (cs := #[.bool bL6004, .slice Ao7002 x121001_6.length co7002]) ?_ 1 _ rfl; (with_reducible repeat (first | refine blk_drewN ?_ _ | refine blk_drew ?_ | refine blk_alloc ?_ _)); exact BK120.out))⟩; have n5_ : Aside0 (Below w.heap.size w w7006) := ⟨(by rw [hw]; exact wB)⟩; clear hw; clear HO_10; clear HO_13; clear HO_121001; clear HO123; clear BK120; clear HB; have HO_10 := n0_; have HO_13 := n1_; have HO_121001 := n2_; have HO123 := n3_; have BK120 := n4_; have HB := n5_; clear n0_ n1_ n2_ n3_ n4_ n5_; obtain ⟨⟨hcz7007_0, hcz7007_1⟩, hfz7007_0, hfz7007_1⟩ := cells2 BK120.out) | ((with_reducible refine gate_builtin (b := .append) (xs := #[.tmp 135, .tmp 137]) rfl ?_); (try (refine gate_guard (by rfl) ?_; dsimp only)); at_builtin; refine Kd.S_append k35 (w0 := w) w.heap.size rfl (.tmp 135) (.tmp 137) 30 35 (.agg #[(.bool false), (.slice none 0 0)]) 32 rfl Try.underlying30 info35 rfl (by decide) (by omega) u13 x13_4 (⟨bL6004, t121⟩ : S35) [.bool bL6004, .slice Ao7004 t121.length co7004] (fun k_ => some k_ ≠ (.slice Ao7002 x121001_6.length co7002 : Value).ownBlock ∧ k_ ≠ gb120) (fun k_ => some k_ = (.slice Ao7004 t121.length co7004 : Value).ownBlock) rfl rfl ?aP (fun k_ hk_ => ((Kd.R_mono (ok' := fun k_ => ((fun k_ => some k_ ≠ (.slice Ao7002 x121001_6.length co7002 : Value).ownBlock ∧ k_ ≠ gb120)) k_ ∧ some k_ ≠ (u13 : Value).ownBlock) (Kd.R_types (Kd.R_apart' (HO123.out) (Kd.S_typed HO_13.out) (by decide)) BK120.out (by decide)) (fun k_ hk => ⟨⟨hk.1.1, hk.2⟩, hk.1.2⟩))).1 k_ hk_.symm) ?aF ?aO ?aB ?aS ?aL ?_; (case aP => exact k35_mkM _ _ _ (⟨bL6004, t121⟩ : S35) (Kd.R_mono (Kd.R_tight rfl (Kd.R_mono (ok' := fun k_ => ((fun k_ => some k_ ≠ (.slice Ao7002 x121001_6.length co7002 : Value).ownBlock ∧ k_ ≠ gb120)) k_ ∧ some k_ ≠ (u13 : Value).ownBlock) (Kd.R_types (Kd.R_apart' (HO123.out) (Kd.S_typed HO_13.out) (by decide)) BK120.out (by decide)) (fun k_ hk => ⟨⟨hk.1.1, hk.2⟩, hk.1.2⟩))) (fun _ h_ => h_))); (case aB => exact wB); (case aF => exact (fun k_ hk => ⟨Kd.fresh' (Kd.R_lt (Rh HO_121001)) k_ hk, Kd.freshB (Bh BK120) k_ hk⟩)); (case aO => exact (Kd.S_mono (Sh HO_13) (fun k_ hk => ⟨⟨hk.1, hk.2.2⟩, fun e_ => hk.2.1 e_⟩))); (case aS => exact (below_size wB)); (case aL => have := LMc6016.out; omega); intro v125 w7008 ho hb hg hat; rw [← Ny124.out] at ho; have n0_ := Aside0.mk (Kd.R_over' (Rh HO_10) (Kd.S_typed (Sh HO_13)) (by decide) hg); have n1_ := Aside0.mk (Kd.R_over' (Rh HO_121001) (Kd.S_typed (Sh HO_13)) (by decide) hg); have n2_ := Aside0.mk (blk_grown (Bh BK120) hg (Kd.S_away HO_13.out (fun _ hk => hk.2.2))); have n3_ := Aside0.mk (hb); have n4_ := Aside0.mk (ho); clear HO_10; clear HO_121001; clear BK120; clear HB; clear HO_13; clear HO123; have HO_10 := n0_; have HO_121001 := n1_; have BK120 := n2_; have HB := n3_; have HO126 := n4_; clear n0_ n1_ n2_ n3_ n4_; clear ho hb hg hat))
 (try simp only [← hl10_6])
 go_roundg k6
 case measure => have := HJ4.out; have := HK2.out; have := HJ2006.out; have := HK4.out; have := HK5.out; have := HK6.out; omega
 case rel => exact ⟨(x10_6), (y124), (wrap64 (x74_4 + 1)), (by first | rfl | (simp; done) | (simp [*]; done)), H', ⟨by have := HJ4.out; have := HK2.out; have := HJ2006.out; have := HK4.out; have := HK5.out; have := HK6.out; omega⟩, ⟨by (try simp only [hl10_6]); (with_reducible repeat (first | apply Kd.R_alloc | apply Kd.R_drewN | apply Kd.R_drew)); exact HO_10.out⟩, ⟨by (try simp only [hl10_6]); (with_reducible repeat (first | apply Kd.S_alloc | apply Kd.S_drewN | apply Kd.S_drew)); exact Kd.S_mono HO126.out (fun _ hk => trivial)⟩, ⟨wB⟩⟩
 }
 }
 )
 }
 }
 )
 }
 {
 rw [if_neg c4001] at H
 have c4001b0 : decide (x74_4 < a3) = false := decide_eq_false c4001
 clear c4001
 simp only [Option.some.injEq, Prod.mk.injEq] at H
 obtain ⟨rfl, rfl⟩ := H
 go_wp2
 go_ret2
 exact ⟨_, by first | rfl | (simp [errW_none, errW_some] <;> rfl) | (simp [*, errW_none, errW_some] <;> rfl), by (with_reducible repeat (first | apply Kd.S_alloc | apply Kd.S_drewN | apply Kd.S_drew)); exact HO_13.out, wB⟩
 }
 }
 )
 }
 }
 )
 }
 }
 )
 }
 }
 )

end Go.Proofs.Ytkfbcmbemihbnaa.PFnExactShare
