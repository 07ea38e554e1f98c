-- Written for this claim by a program of this session (wip/mkprint.py: the print, turned at a few places). Not trusted: Lean checks it.
import Derived.Test.YtcapkpbjppenpaaPFnExactFragmentx0
import Derived.Test.YtcapkpbjppenpaaPFnExactFragmentx1
import Derived.Test.YtcapkpbjppenpaaPFnExactFragmentx3
import Derived.Test.YtcapkpbjppenpaaPFnExactFragmentx4
import Derived.Test.YtcapkpbjppenpaaPFnExactFragmentx5
import Derived.Test.YtcapkpbjppenpaaPFnExactFragmentx6
namespace Go.Proofs.Ytcapkpbjppenpaa.PFnExactFragment
open Go.RowKit Go.Proofs.YtcapkpbjppenpaaW.PrintWords Go.Proofs.YtcapkpbjppenpaaW.PrintLast Go.Proofs.YtcapkpbjppenpaaW.PrintMore
attribute [local go_sem] max2_int min2_int max_two min_two max_three min_three max_four min_four   -- for this text's walks alone
set_option linter.unusedVariables false
set_option linter.unusedSimpArgs false

/-! ### laws_heldPacketS: function 12 -/
def laws_heldPacketS.l0 : Nat → List (S29) → Int → Int → Option (Int)
  | 0, _, _, _ => none
  | k + 1, x0, x1, x5 => if x5 < (x0.length : Int) then (if 0 ≤ x5 then (if ((rd_T29 x0 x5).f0) = x1 then (if ((rd_T29 x0 x5).f1) = (wrap64 (x1 + 1)) then (if (((rd_T29 x0 x5).f2) != ((Int.tmod (wrap64 ((wrap64 (x1 + 1)) + 1)) 3) == 0)) = true then (some (-1)) else (if (((rd_T29 x0 x5).f3) != ((Int.tmod (wrap64 ((wrap64 ((wrap64 (x1 + 1)) + 1)) + 1)) 3) == 0)) = true then (some (-1)) else (if ((rd_T29 x0 x5).f4) = (wrap64 ((wrap64 ((wrap64 ((wrap64 (x1 + 1)) + 1)) + 1)) + 1)) then (if ((rd_T29 x0 x5).f5) = (wrap64 ((wrap64 ((wrap64 ((wrap64 ((wrap64 (x1 + 1)) + 1)) + 1)) + 1)) + 1)) then (if ((rd_T29 x0 x5).f6) = (wrap64 ((wrap64 ((wrap64 ((wrap64 ((wrap64 ((wrap64 (x1 + 1)) + 1)) + 1)) + 1)) + 1)) + 1)) then (if ((rd_T29 x0 x5).f7) = (wrap64 ((wrap64 ((wrap64 ((wrap64 ((wrap64 ((wrap64 ((wrap64 (x1 + 1)) + 1)) + 1)) + 1)) + 1)) + 1)) + 1)) then (if ((rd_T29 x0 x5).f8) = (wrap64 ((wrap64 ((wrap64 ((wrap64 ((wrap64 ((wrap64 ((wrap64 ((wrap64 (x1 + 1)) + 1)) + 1)) + 1)) + 1)) + 1)) + 1)) + 1)) then ((laws_heldByteS.f k ((rd_T29 x0 x5).f9) (wrap64 ((wrap64 ((wrap64 ((wrap64 ((wrap64 ((wrap64 ((wrap64 ((wrap64 ((wrap64 (x1 + 1)) + 1)) + 1)) + 1)) + 1)) + 1)) + 1)) + 1)) + 1))).bind fun t317 => (if t317 < 0 then (some (-1)) else ((laws_heldByteS.f k ((rd_T29 x0 x5).f10) t317).bind fun t319 => (if t319 < 0 then (some (-1)) else (laws_heldPacketS.l0 k x0 t319 (wrap64 (x5 + 1))))))) else (some (-1))) else (some (-1))) else (some (-1))) else (some (-1))) else (some (-1))))) else (some (-1))) else (some (-1))) else (none)) else (some x1)
def laws_heldPacketS.f (k : Nat) (l0 : List (S29)) (a1 : Int) : Option (Int) := laws_heldPacketS.l0 k l0 a1 0
theorem laws_heldPacketS.mono_l : ∀ k, (∀ y0 y1 y2, LeO (laws_heldPacketS.l0 k y0 y1 y2) (laws_heldPacketS.l0 (k + 1) y0 y1 y2))
  | 0 => fun _ _ _ r h => by simp [laws_heldPacketS.l0] at h
  | k + 1 => by
    have ih0 := laws_heldPacketS.mono_l k
    · intro y0 y1 y2
      unfold laws_heldPacketS.l0
      repeat' first
      | (with_reducible exact ih0 _ _ _)
      | (with_reducible exact laws_heldByteS.mono _ _ _)
      | (with_reducible exact LeO.refl _)
      | (with_reducible exact LeO.none _)
      | (with_reducible refine LeO.ite ?_ ?_)
      | (with_reducible refine LeO.bind ?_ (fun _ => ?_))
      | exact ih0 _ _ _
      | exact laws_heldByteS.mono _ _ _
      | exact LeO.none _
      | refine LeO.ite ?_ ?_
      | refine LeO.bind ?_ (fun _ => ?_)
theorem laws_heldPacketS.mono : ∀ a0 a1 k, LeO (laws_heldPacketS.f k a0 a1) (laws_heldPacketS.f (k + 1) a0 a1) := by
 intro a0 a1 k
 have ih0 := laws_heldPacketS.mono_l k
 unfold laws_heldPacketS.f
 repeat' first
     | (with_reducible exact ih0 _ _ _)
     | (with_reducible exact laws_heldByteS.mono _ _ _)
     | (with_reducible exact LeO.refl _)
     | (with_reducible exact LeO.none _)
     | (with_reducible refine LeO.ite ?_ ?_)
     | (with_reducible refine LeO.bind ?_ (fun _ => ?_))
     | exact ih0 _ _ _
     | exact laws_heldByteS.mono _ _ _
     | exact LeO.none _
     | refine LeO.ite ?_ ?_
     | refine LeO.bind ?_ (fun _ => ?_)
set_option maxHeartbeats 60000000 in
set_option maxRecDepth 100000 in
theorem laws_heldPacketS.calls (k : Nat) (A0 : Option Addr) (c0 : Nat) (l0 : List (S29)) (a1 : Int) (r : Int) (w : World) (hr0 : Kd.C k29 w A0 l0.length l0) (hc0 : l0.length ≤ c0) (h : laws_heldPacketS.f k l0 a1 = some r) :
 Calls Try.prog 12 #[.slice A0 l0.length c0, .int .i64 a1] w fun e w' => e = .returned (.int .i64 r) ∧ Drawn0 w w' := by
 have HR0 := Aside0.mk hr0
 have HC0 := Aside0.mk hc0
 clear hr0 hc0
 have H : (laws_heldPacketS.l0 k l0 a1 0) = some r := h
 clear h
 have H' := Aside0.mk H
 clear H
 go_enter Try.func12, Try.ntmps12
 go_wp2
 go_loopg [1, 5] k (fun kq v1 v5 w' => ∃ (x1_1 : Int) (x5_1 : Int), v1 = .int .i64 x1_1 ∧ v5 = .int .i64 x5_1 ∧ Aside0 (laws_heldPacketS.l0 kq l0 x1_1 x5_1 = some r) ∧ Aside0 (kq ≤ k) ∧ Drawn0 w w')
 case atStart => exact ⟨(a1), (0), (by first | rfl | (simp; done) | (simp [*]; done)), (by first | rfl | (simp; done) | (simp [*]; done)), H', ⟨Nat.le_refl _⟩, by repeat (first | exact Drawn0.refl _ | apply Drawn0.step)⟩
 case round => (
 clear H'
 obtain ⟨x1_1, x5_1, rfl, rfl, HA, HK1, ⟨m1, rfl⟩⟩ := hrel
 cases gk with
 | zero => exact absurd HA.out (by simp [laws_heldPacketS.l0])
 | succ k1 => {
 have H := HA.out
 clear HA
 simp only [laws_heldPacketS.l0] at H
 by_cases c1001 : x5_1 < (l0.length : Int)
 rw [if_pos c1001] at H
 have c1001b0 : decide (x5_1 < (l0.length : Int)) = true := decide_eq_true c1001
 clear c1001
 by_cases c1002 : 0 ≤ x5_1
 rw [if_pos c1002] at H
 have c1002b0 : decide (0 ≤ x5_1) = true := decide_eq_true c1002
 clear c1002
 by_cases c1003 : ((rd_T29 l0 x5_1).f0) = x1_1
 rw [if_pos c1003] at H
 have c1003b0 : (((rd_T29 l0 x5_1).f0) == x1_1) = true := beq_iff_eq.mpr c1003
 have c1003b1 : (((rd_T29 l0 x5_1).f0) != x1_1) = false := bne_eq_false_iff_eq.mpr c1003
 clear c1003
 by_cases c1004 : ((rd_T29 l0 x5_1).f1) = (wrap64 (x1_1 + 1))
 rw [if_pos c1004] at H
 have c1004b0 : (((rd_T29 l0 x5_1).f1) == (wrap64 (x1_1 + 1))) = true := beq_iff_eq.mpr c1004
 have c1004b1 : (((rd_T29 l0 x5_1).f1) != (wrap64 (x1_1 + 1))) = false := bne_eq_false_iff_eq.mpr c1004
 clear c1004
 by_cases c1005 : (((rd_T29 l0 x5_1).f2) != ((Int.tmod (wrap64 ((wrap64 (x1_1 + 1)) + 1)) 3) == 0)) = true
 rw [if_pos c1005] at H
 have c1005b0 : (((rd_T29 l0 x5_1).f2) != ((Int.tmod (wrap64 ((wrap64 (x1_1 + 1)) + 1)) 3) == 0)) = true := c1005
 (try (have c1005b1 : decide (((rd_T29 l0 x5_1).f2) = ((Int.tmod (wrap64 ((wrap64 (x1_1 + 1)) + 1)) 3) == 0)) = false := by simpa using c1005))
 (try (have c1005b2 : (((rd_T29 l0 x5_1).f2) == ((Int.tmod (wrap64 ((wrap64 (x1_1 + 1)) + 1)) 3) == 0)) = false := by simpa using c1005))
 (try (have c1005b3 : ¬ (((rd_T29 l0 x5_1).f2) = ((Int.tmod (wrap64 ((wrap64 (x1_1 + 1)) + 1)) 3) == 0)) := by simpa using c1005))
 clear c1005
 obtain rfl := Option.some.inj H
 rotate_left
 rw [if_neg c1005] at H
 have c1005b0 : (((rd_T29 l0 x5_1).f2) != ((Int.tmod (wrap64 ((wrap64 (x1_1 + 1)) + 1)) 3) == 0)) = false := by simpa using c1005
 (try (have c1005b1 : decide (((rd_T29 l0 x5_1).f2) = ((Int.tmod (wrap64 ((wrap64 (x1_1 + 1)) + 1)) 3) == 0)) = true := by simpa using c1005))
 (try (have c1005b2 : (((rd_T29 l0 x5_1).f2) == ((Int.tmod (wrap64 ((wrap64 (x1_1 + 1)) + 1)) 3) == 0)) = true := by simpa using c1005))
 clear c1005
 by_cases c1006 : (((rd_T29 l0 x5_1).f3) != ((Int.tmod (wrap64 ((wrap64 ((wrap64 (x1_1 + 1)) + 1)) + 1)) 3) == 0)) = true
 rw [if_pos c1006] at H
 have c1006b0 : (((rd_T29 l0 x5_1).f3) != ((Int.tmod (wrap64 ((wrap64 ((wrap64 (x1_1 + 1)) + 1)) + 1)) 3) == 0)) = true := c1006
 (try (have c1006b1 : decide (((rd_T29 l0 x5_1).f3) = ((Int.tmod (wrap64 ((wrap64 ((wrap64 (x1_1 + 1)) + 1)) + 1)) 3) == 0)) = false := by simpa using c1006))
 (try (have c1006b2 : (((rd_T29 l0 x5_1).f3) == ((Int.tmod (wrap64 ((wrap64 ((wrap64 (x1_1 + 1)) + 1)) + 1)) 3) == 0)) = false := by simpa using c1006))
 (try (have c1006b3 : ¬ (((rd_T29 l0 x5_1).f3) = ((Int.tmod (wrap64 ((wrap64 ((wrap64 (x1_1 + 1)) + 1)) + 1)) 3) == 0)) := by simpa using c1006))
 clear c1006
 obtain rfl := Option.some.inj H
 rotate_left
 rw [if_neg c1006] at H
 have c1006b0 : (((rd_T29 l0 x5_1).f3) != ((Int.tmod (wrap64 ((wrap64 ((wrap64 (x1_1 + 1)) + 1)) + 1)) 3) == 0)) = false := by simpa using c1006
 (try (have c1006b1 : decide (((rd_T29 l0 x5_1).f3) = ((Int.tmod (wrap64 ((wrap64 ((wrap64 (x1_1 + 1)) + 1)) + 1)) 3) == 0)) = true := by simpa using c1006))
 (try (have c1006b2 : (((rd_T29 l0 x5_1).f3) == ((Int.tmod (wrap64 ((wrap64 ((wrap64 (x1_1 + 1)) + 1)) + 1)) 3) == 0)) = true := by simpa using c1006))
 clear c1006
 by_cases c1007 : ((rd_T29 l0 x5_1).f4) = (wrap64 ((wrap64 ((wrap64 ((wrap64 (x1_1 + 1)) + 1)) + 1)) + 1))
 rw [if_pos c1007] at H
 have c1007b0 : (((rd_T29 l0 x5_1).f4) == (wrap64 ((wrap64 ((wrap64 ((wrap64 (x1_1 + 1)) + 1)) + 1)) + 1))) = true := beq_iff_eq.mpr c1007
 have c1007b1 : (((rd_T29 l0 x5_1).f4) != (wrap64 ((wrap64 ((wrap64 ((wrap64 (x1_1 + 1)) + 1)) + 1)) + 1))) = false := bne_eq_false_iff_eq.mpr c1007
 clear c1007
 by_cases c1008 : ((rd_T29 l0 x5_1).f5) = (wrap64 ((wrap64 ((wrap64 ((wrap64 ((wrap64 (x1_1 + 1)) + 1)) + 1)) + 1)) + 1))
 rw [if_pos c1008] at H
 have c1008b0 : (((rd_T29 l0 x5_1).f5) == (wrap64 ((wrap64 ((wrap64 ((wrap64 ((wrap64 (x1_1 + 1)) + 1)) + 1)) + 1)) + 1))) = true := beq_iff_eq.mpr c1008
 have c1008b1 : (((rd_T29 l0 x5_1).f5) != (wrap64 ((wrap64 ((wrap64 ((wrap64 ((wrap64 (x1_1 + 1)) + 1)) + 1)) + 1)) + 1))) = false := bne_eq_false_iff_eq.mpr c1008
 clear c1008
 by_cases c1009 : ((rd_T29 l0 x5_1).f6) = (wrap64 ((wrap64 ((wrap64 ((wrap64 ((wrap64 ((wrap64 (x1_1 + 1)) + 1)) + 1)) + 1)) + 1)) + 1))
 rw [if_pos c1009] at H
 have c1009b0 : (((rd_T29 l0 x5_1).f6) == (wrap64 ((wrap64 ((wrap64 ((wrap64 ((wrap64 ((wrap64 (x1_1 + 1)) + 1)) + 1)) + 1)) + 1)) + 1))) = true := beq_iff_eq.mpr c1009
 have c1009b1 : (((rd_T29 l0 x5_1).f6) != (wrap64 ((wrap64 ((wrap64 ((wrap64 ((wrap64 ((wrap64 (x1_1 + 1)) + 1)) + 1)) + 1)) + 1)) + 1))) = false := bne_eq_false_iff_eq.mpr c1009
 clear c1009
 by_cases c1010 : ((rd_T29 l0 x5_1).f7) = (wrap64 ((wrap64 ((wrap64 ((wrap64 ((wrap64 ((wrap64 ((wrap64 (x1_1 + 1)) + 1)) + 1)) + 1)) + 1)) + 1)) + 1))
 rw [if_pos c1010] at H
 have c1010b0 : (((rd_T29 l0 x5_1).f7) == (wrap64 ((wrap64 ((wrap64 ((wrap64 ((wrap64 ((wrap64 ((wrap64 (x1_1 + 1)) + 1)) + 1)) + 1)) + 1)) + 1)) + 1))) = true := beq_iff_eq.mpr c1010
 have c1010b1 : (((rd_T29 l0 x5_1).f7) != (wrap64 ((wrap64 ((wrap64 ((wrap64 ((wrap64 ((wrap64 ((wrap64 (x1_1 + 1)) + 1)) + 1)) + 1)) + 1)) + 1)) + 1))) = false := bne_eq_false_iff_eq.mpr c1010
 clear c1010
 by_cases c1011 : ((rd_T29 l0 x5_1).f8) = (wrap64 ((wrap64 ((wrap64 ((wrap64 ((wrap64 ((wrap64 ((wrap64 ((wrap64 (x1_1 + 1)) + 1)) + 1)) + 1)) + 1)) + 1)) + 1)) + 1))
 rw [if_pos c1011] at H
 have c1011b0 : (((rd_T29 l0 x5_1).f8) == (wrap64 ((wrap64 ((wrap64 ((wrap64 ((wrap64 ((wrap64 ((wrap64 ((wrap64 (x1_1 + 1)) + 1)) + 1)) + 1)) + 1)) + 1)) + 1)) + 1))) = true := beq_iff_eq.mpr c1011
 have c1011b1 : (((rd_T29 l0 x5_1).f8) != (wrap64 ((wrap64 ((wrap64 ((wrap64 ((wrap64 ((wrap64 ((wrap64 ((wrap64 (x1_1 + 1)) + 1)) + 1)) + 1)) + 1)) + 1)) + 1)) + 1))) = false := bne_eq_false_iff_eq.mpr c1011
 clear c1011
 replace H := Option.bind_eq_some_iff.mp H
 obtain ⟨t317, A10120, H⟩ := H
 replace H : (if t317 < 0 then (some (-1)) else ((laws_heldByteS.f k1 ((rd_T29 l0 x5_1).f10) t317).bind fun t319 => (if t319 < 0 then (some (-1)) else (laws_heldPacketS.l0 k1 l0 t319 (wrap64 (x5_1 + 1)))))) = some r := H
 have A1012 := Aside0.mk A10120
 clear A10120
 by_cases c1013 : t317 < 0
 rw [if_pos c1013] at H
 have c1013b0 : decide (t317 < 0) = true := decide_eq_true c1013
 clear c1013
 obtain rfl := Option.some.inj H
 rotate_left
 rw [if_neg c1013] at H
 have c1013b0 : decide (t317 < 0) = false := decide_eq_false c1013
 clear c1013
 replace H := Option.bind_eq_some_iff.mp H
 obtain ⟨t319, A10140, H⟩ := H
 replace H : (if t319 < 0 then (some (-1)) else (laws_heldPacketS.l0 k1 l0 t319 (wrap64 (x5_1 + 1)))) = some r := H
 have A1014 := Aside0.mk A10140
 clear A10140
 by_cases c1015 : t319 < 0
 rw [if_pos c1015] at H
 have c1015b0 : decide (t319 < 0) = true := decide_eq_true c1015
 clear c1015
 obtain rfl := Option.some.inj H
 rotate_left
 rw [if_neg c1015] at H
 have c1015b0 : decide (t319 < 0) = false := decide_eq_false c1015
 clear c1015
 have H' := Aside0.mk H
 clear H
 rotate_left
 rw [if_neg c1011] at H
 have c1011b0 : (((rd_T29 l0 x5_1).f8) == (wrap64 ((wrap64 ((wrap64 ((wrap64 ((wrap64 ((wrap64 ((wrap64 ((wrap64 (x1_1 + 1)) + 1)) + 1)) + 1)) + 1)) + 1)) + 1)) + 1))) = false := beq_eq_false_iff_ne.mpr c1011
 have c1011b1 : (((rd_T29 l0 x5_1).f8) != (wrap64 ((wrap64 ((wrap64 ((wrap64 ((wrap64 ((wrap64 ((wrap64 ((wrap64 (x1_1 + 1)) + 1)) + 1)) + 1)) + 1)) + 1)) + 1)) + 1))) = true := bne_iff_ne.mpr c1011
 obtain rfl := Option.some.inj H
 rotate_left
 rw [if_neg c1010] at H
 have c1010b0 : (((rd_T29 l0 x5_1).f7) == (wrap64 ((wrap64 ((wrap64 ((wrap64 ((wrap64 ((wrap64 ((wrap64 (x1_1 + 1)) + 1)) + 1)) + 1)) + 1)) + 1)) + 1))) = false := beq_eq_false_iff_ne.mpr c1010
 have c1010b1 : (((rd_T29 l0 x5_1).f7) != (wrap64 ((wrap64 ((wrap64 ((wrap64 ((wrap64 ((wrap64 ((wrap64 (x1_1 + 1)) + 1)) + 1)) + 1)) + 1)) + 1)) + 1))) = true := bne_iff_ne.mpr c1010
 obtain rfl := Option.some.inj H
 rotate_left
 rw [if_neg c1009] at H
 have c1009b0 : (((rd_T29 l0 x5_1).f6) == (wrap64 ((wrap64 ((wrap64 ((wrap64 ((wrap64 ((wrap64 (x1_1 + 1)) + 1)) + 1)) + 1)) + 1)) + 1))) = false := beq_eq_false_iff_ne.mpr c1009
 have c1009b1 : (((rd_T29 l0 x5_1).f6) != (wrap64 ((wrap64 ((wrap64 ((wrap64 ((wrap64 ((wrap64 (x1_1 + 1)) + 1)) + 1)) + 1)) + 1)) + 1))) = true := bne_iff_ne.mpr c1009
 obtain rfl := Option.some.inj H
 rotate_left
 rw [if_neg c1008] at H
 have c1008b0 : (((rd_T29 l0 x5_1).f5) == (wrap64 ((wrap64 ((wrap64 ((wrap64 ((wrap64 (x1_1 + 1)) + 1)) + 1)) + 1)) + 1))) = false := beq_eq_false_iff_ne.mpr c1008
 have c1008b1 : (((rd_T29 l0 x5_1).f5) != (wrap64 ((wrap64 ((wrap64 ((wrap64 ((wrap64 (x1_1 + 1)) + 1)) + 1)) + 1)) + 1))) = true := bne_iff_ne.mpr c1008
 obtain rfl := Option.some.inj H
 rotate_left
 rw [if_neg c1007] at H
 have c1007b0 : (((rd_T29 l0 x5_1).f4) == (wrap64 ((wrap64 ((wrap64 ((wrap64 (x1_1 + 1)) + 1)) + 1)) + 1))) = false := beq_eq_false_iff_ne.mpr c1007
 have c1007b1 : (((rd_T29 l0 x5_1).f4) != (wrap64 ((wrap64 ((wrap64 ((wrap64 (x1_1 + 1)) + 1)) + 1)) + 1))) = true := bne_iff_ne.mpr c1007
 obtain rfl := Option.some.inj H
 rotate_left
 rw [if_neg c1004] at H
 have c1004b0 : (((rd_T29 l0 x5_1).f1) == (wrap64 (x1_1 + 1))) = false := beq_eq_false_iff_ne.mpr c1004
 have c1004b1 : (((rd_T29 l0 x5_1).f1) != (wrap64 (x1_1 + 1))) = true := bne_iff_ne.mpr c1004
 obtain rfl := Option.some.inj H
 rotate_left
 rw [if_neg c1003] at H
 have c1003b0 : (((rd_T29 l0 x5_1).f0) == x1_1) = false := beq_eq_false_iff_ne.mpr c1003
 have c1003b1 : (((rd_T29 l0 x5_1).f0) != x1_1) = true := bne_iff_ne.mpr c1003
 obtain rfl := Option.some.inj H
 rotate_left
 rw [if_neg c1002] at H
 exact absurd H (by simp)
 rw [if_neg c1001] at H
 have c1001b0 : decide (x5_1 < (l0.length : Int)) = false := decide_eq_false c1001
 clear c1001
 obtain rfl := Option.some.inj H
 rotate_left
 iterate 12 (
 focus (
 have p307 : 0 ≤ (x5_1 : Int) := of_decide_eq_true (by first | (with_reducible assumption) | assumption)
 have q307 : x5_1 < (l0.length : Int) := of_decide_eq_true (by first | (with_reducible assumption) | assumption)
 obtain ⟨ad307, A307_9, c307_9, A307_10, c307_10, e307, hx307_0, hx307_1, hx307_2, hx307_3, hx307_4, hx307_5, hx307_6, hx307_7, hx307_8, hx307_9, hx307_10, hl307_9, hi307_9, hl307_10, hi307_10⟩ := at_T29 HR0.out x5_1 p307 q307
 cases e307
 have HR307_9 := Aside0.mk hi307_9
 have HC307_9 := Aside0.mk hl307_9
 clear hi307_9 hl307_9
 have HR307_10 := Aside0.mk hi307_10
 have HC307_10 := Aside0.mk hl307_10
 clear hi307_10 hl307_10
 replace p307 := eq_true p307
 replace q307 := eq_true q307
 )
 rotate_left
 )
 rotate_right 12
 iterate 11 (
 focus (
 have p308 : 0 ≤ (x5_1 : Int) := of_decide_eq_true (by first | (with_reducible assumption) | assumption)
 have q308 : x5_1 < (l0.length : Int) := of_decide_eq_true (by first | (with_reducible assumption) | assumption)
 obtain ⟨ad308, A308_9, c308_9, A308_10, c308_10, e308, hx308_0, hx308_1, hx308_2, hx308_3, hx308_4, hx308_5, hx308_6, hx308_7, hx308_8, hx308_9, hx308_10, hl308_9, hi308_9, hl308_10, hi308_10⟩ := at_T29 HR0.out x5_1 p308 q308
 obtain rfl : ad307 = ad308 := (by injection e308)
 have HR308_9 := Aside0.mk hi308_9
 have HC308_9 := Aside0.mk hl308_9
 clear hi308_9 hl308_9
 have HR308_10 := Aside0.mk hi308_10
 have HC308_10 := Aside0.mk hl308_10
 clear hi308_10 hl308_10
 replace p308 := eq_true p308
 replace q308 := eq_true q308
 have ea_ := Option.some.inj (hx307_9.symm.trans hx308_9)
 injection ea_ with ea_ en_ ec_
 subst ea_
 subst ec_
 clear en_
 have ea_ := Option.some.inj (hx307_10.symm.trans hx308_10)
 injection ea_ with ea_ en_ ec_
 subst ea_
 subst ec_
 clear en_
 )
 rotate_left
 )
 rotate_right 11
 iterate 10 (
 focus (
 have p309 : 0 ≤ (x5_1 : Int) := of_decide_eq_true (by first | (with_reducible assumption) | assumption)
 have q309 : x5_1 < (l0.length : Int) := of_decide_eq_true (by first | (with_reducible assumption) | assumption)
 obtain ⟨ad309, A309_9, c309_9, A309_10, c309_10, e309, hx309_0, hx309_1, hx309_2, hx309_3, hx309_4, hx309_5, hx309_6, hx309_7, hx309_8, hx309_9, hx309_10, hl309_9, hi309_9, hl309_10, hi309_10⟩ := at_T29 HR0.out x5_1 p309 q309
 obtain rfl : ad307 = ad309 := (by injection e309)
 have HR309_9 := Aside0.mk hi309_9
 have HC309_9 := Aside0.mk hl309_9
 clear hi309_9 hl309_9
 have HR309_10 := Aside0.mk hi309_10
 have HC309_10 := Aside0.mk hl309_10
 clear hi309_10 hl309_10
 replace p309 := eq_true p309
 replace q309 := eq_true q309
 have ea_ := Option.some.inj (hx307_9.symm.trans hx309_9)
 injection ea_ with ea_ en_ ec_
 subst ea_
 subst ec_
 clear en_
 have ea_ := Option.some.inj (hx307_10.symm.trans hx309_10)
 injection ea_ with ea_ en_ ec_
 subst ea_
 subst ec_
 clear en_
 )
 rotate_left
 )
 rotate_right 10
 {
 go_wp2
 go_ret
 exact ⟨by first | rfl | (simp; done) | (simp [*]; done), by repeat (first | exact Drawn0.refl _ | apply Drawn0.step)⟩
 }
 iterate 9 (
 focus (
 have p310 : 0 ≤ (x5_1 : Int) := of_decide_eq_true (by first | (with_reducible assumption) | assumption)
 have q310 : x5_1 < (l0.length : Int) := of_decide_eq_true (by first | (with_reducible assumption) | assumption)
 obtain ⟨ad310, A310_9, c310_9, A310_10, c310_10, e310, hx310_0, hx310_1, hx310_2, hx310_3, hx310_4, hx310_5, hx310_6, hx310_7, hx310_8, hx310_9, hx310_10, hl310_9, hi310_9, hl310_10, hi310_10⟩ := at_T29 HR0.out x5_1 p310 q310
 obtain rfl : ad307 = ad310 := (by injection e310)
 have HR310_9 := Aside0.mk hi310_9
 have HC310_9 := Aside0.mk hl310_9
 clear hi310_9 hl310_9
 have HR310_10 := Aside0.mk hi310_10
 have HC310_10 := Aside0.mk hl310_10
 clear hi310_10 hl310_10
 replace p310 := eq_true p310
 replace q310 := eq_true q310
 have ea_ := Option.some.inj (hx307_9.symm.trans hx310_9)
 injection ea_ with ea_ en_ ec_
 subst ea_
 subst ec_
 clear en_
 have ea_ := Option.some.inj (hx307_10.symm.trans hx310_10)
 injection ea_ with ea_ en_ ec_
 subst ea_
 subst ec_
 clear en_
 )
 rotate_left
 )
 rotate_right 9
 {
 go_wp2
 go_ret
 exact ⟨by first | rfl | (simp; done) | (simp [*]; done), by repeat (first | exact Drawn0.refl _ | apply Drawn0.step)⟩
 }
 iterate 8 (
 focus (
 have p311 : 0 ≤ (x5_1 : Int) := of_decide_eq_true (by first | (with_reducible assumption) | assumption)
 have q311 : x5_1 < (l0.length : Int) := of_decide_eq_true (by first | (with_reducible assumption) | assumption)
 obtain ⟨ad311, A311_9, c311_9, A311_10, c311_10, e311, hx311_0, hx311_1, hx311_2, hx311_3, hx311_4, hx311_5, hx311_6, hx311_7, hx311_8, hx311_9, hx311_10, hl311_9, hi311_9, hl311_10, hi311_10⟩ := at_T29 HR0.out x5_1 p311 q311
 obtain rfl : ad307 = ad311 := (by injection e311)
 have HR311_9 := Aside0.mk hi311_9
 have HC311_9 := Aside0.mk hl311_9
 clear hi311_9 hl311_9
 have HR311_10 := Aside0.mk hi311_10
 have HC311_10 := Aside0.mk hl311_10
 clear hi311_10 hl311_10
 replace p311 := eq_true p311
 replace q311 := eq_true q311
 have ea_ := Option.some.inj (hx307_9.symm.trans hx311_9)
 injection ea_ with ea_ en_ ec_
 subst ea_
 subst ec_
 clear en_
 have ea_ := Option.some.inj (hx307_10.symm.trans hx311_10)
 injection ea_ with ea_ en_ ec_
 subst ea_
 subst ec_
 clear en_
 )
 rotate_left
 )
 rotate_right 8
 iterate 7 (
 focus (
 have p312 : 0 ≤ (x5_1 : Int) := of_decide_eq_true (by first | (with_reducible assumption) | assumption)
 have q312 : x5_1 < (l0.length : Int) := of_decide_eq_true (by first | (with_reducible assumption) | assumption)
 obtain ⟨ad312, A312_9, c312_9, A312_10, c312_10, e312, hx312_0, hx312_1, hx312_2, hx312_3, hx312_4, hx312_5, hx312_6, hx312_7, hx312_8, hx312_9, hx312_10, hl312_9, hi312_9, hl312_10, hi312_10⟩ := at_T29 HR0.out x5_1 p312 q312
 obtain rfl : ad307 = ad312 := (by injection e312)
 have HR312_9 := Aside0.mk hi312_9
 have HC312_9 := Aside0.mk hl312_9
 clear hi312_9 hl312_9
 have HR312_10 := Aside0.mk hi312_10
 have HC312_10 := Aside0.mk hl312_10
 clear hi312_10 hl312_10
 replace p312 := eq_true p312
 replace q312 := eq_true q312
 have ea_ := Option.some.inj (hx307_9.symm.trans hx312_9)
 injection ea_ with ea_ en_ ec_
 subst ea_
 subst ec_
 clear en_
 have ea_ := Option.some.inj (hx307_10.symm.trans hx312_10)
 injection ea_ with ea_ en_ ec_
 subst ea_
 subst ec_
 clear en_
 )
 rotate_left
 )
 rotate_right 7
 iterate 6 (
 focus (
 have p313 : 0 ≤ (x5_1 : Int) := of_decide_eq_true (by first | (with_reducible assumption) | assumption)
 have q313 : x5_1 < (l0.length : Int) := of_decide_eq_true (by first | (with_reducible assumption) | assumption)
 obtain ⟨ad313, A313_9, c313_9, A313_10, c313_10, e313, hx313_0, hx313_1, hx313_2, hx313_3, hx313_4, hx313_5, hx313_6, hx313_7, hx313_8, hx313_9, hx313_10, hl313_9, hi313_9, hl313_10, hi313_10⟩ := at_T29 HR0.out x5_1 p313 q313
 obtain rfl : ad307 = ad313 := (by injection e313)
 have HR313_9 := Aside0.mk hi313_9
 have HC313_9 := Aside0.mk hl313_9
 clear hi313_9 hl313_9
 have HR313_10 := Aside0.mk hi313_10
 have HC313_10 := Aside0.mk hl313_10
 clear hi313_10 hl313_10
 replace p313 := eq_true p313
 replace q313 := eq_true q313
 have ea_ := Option.some.inj (hx307_9.symm.trans hx313_9)
 injection ea_ with ea_ en_ ec_
 subst ea_
 subst ec_
 clear en_
 have ea_ := Option.some.inj (hx307_10.symm.trans hx313_10)
 injection ea_ with ea_ en_ ec_
 subst ea_
 subst ec_
 clear en_
 )
 rotate_left
 )
 rotate_right 6
 iterate 5 (
 focus (
 have p314 : 0 ≤ (x5_1 : Int) := of_decide_eq_true (by first | (with_reducible assumption) | assumption)
 have q314 : x5_1 < (l0.length : Int) := of_decide_eq_true (by first | (with_reducible assumption) | assumption)
 obtain ⟨ad314, A314_9, c314_9, A314_10, c314_10, e314, hx314_0, hx314_1, hx314_2, hx314_3, hx314_4, hx314_5, hx314_6, hx314_7, hx314_8, hx314_9, hx314_10, hl314_9, hi314_9, hl314_10, hi314_10⟩ := at_T29 HR0.out x5_1 p314 q314
 obtain rfl : ad307 = ad314 := (by injection e314)
 have HR314_9 := Aside0.mk hi314_9
 have HC314_9 := Aside0.mk hl314_9
 clear hi314_9 hl314_9
 have HR314_10 := Aside0.mk hi314_10
 have HC314_10 := Aside0.mk hl314_10
 clear hi314_10 hl314_10
 replace p314 := eq_true p314
 replace q314 := eq_true q314
 have ea_ := Option.some.inj (hx307_9.symm.trans hx314_9)
 injection ea_ with ea_ en_ ec_
 subst ea_
 subst ec_
 clear en_
 have ea_ := Option.some.inj (hx307_10.symm.trans hx314_10)
 injection ea_ with ea_ en_ ec_
 subst ea_
 subst ec_
 clear en_
 )
 rotate_left
 )
 rotate_right 5
 iterate 4 (
 focus (
 have p315 : 0 ≤ (x5_1 : Int) := of_decide_eq_true (by first | (with_reducible assumption) | assumption)
 have q315 : x5_1 < (l0.length : Int) := of_decide_eq_true (by first | (with_reducible assumption) | assumption)
 obtain ⟨ad315, A315_9, c315_9, A315_10, c315_10, e315, hx315_0, hx315_1, hx315_2, hx315_3, hx315_4, hx315_5, hx315_6, hx315_7, hx315_8, hx315_9, hx315_10, hl315_9, hi315_9, hl315_10, hi315_10⟩ := at_T29 HR0.out x5_1 p315 q315
 obtain rfl : ad307 = ad315 := (by injection e315)
 have HR315_9 := Aside0.mk hi315_9
 have HC315_9 := Aside0.mk hl315_9
 clear hi315_9 hl315_9
 have HR315_10 := Aside0.mk hi315_10
 have HC315_10 := Aside0.mk hl315_10
 clear hi315_10 hl315_10
 replace p315 := eq_true p315
 replace q315 := eq_true q315
 have ea_ := Option.some.inj (hx307_9.symm.trans hx315_9)
 injection ea_ with ea_ en_ ec_
 subst ea_
 subst ec_
 clear en_
 have ea_ := Option.some.inj (hx307_10.symm.trans hx315_10)
 injection ea_ with ea_ en_ ec_
 subst ea_
 subst ec_
 clear en_
 )
 rotate_left
 )
 rotate_right 4
 iterate 3 (
 focus (
 have p316 : 0 ≤ (x5_1 : Int) := of_decide_eq_true (by first | (with_reducible assumption) | assumption)
 have q316 : x5_1 < (l0.length : Int) := of_decide_eq_true (by first | (with_reducible assumption) | assumption)
 obtain ⟨ad316, A316_9, c316_9, A316_10, c316_10, e316, hx316_0, hx316_1, hx316_2, hx316_3, hx316_4, hx316_5, hx316_6, hx316_7, hx316_8, hx316_9, hx316_10, hl316_9, hi316_9, hl316_10, hi316_10⟩ := at_T29 HR0.out x5_1 p316 q316
 obtain rfl : ad307 = ad316 := (by injection e316)
 have HR316_9 := Aside0.mk hi316_9
 have HC316_9 := Aside0.mk hl316_9
 clear hi316_9 hl316_9
 have HR316_10 := Aside0.mk hi316_10
 have HC316_10 := Aside0.mk hl316_10
 clear hi316_10 hl316_10
 replace p316 := eq_true p316
 replace q316 := eq_true q316
 have ea_ := Option.some.inj (hx307_9.symm.trans hx316_9)
 injection ea_ with ea_ en_ ec_
 subst ea_
 subst ec_
 clear en_
 have ea_ := Option.some.inj (hx307_10.symm.trans hx316_10)
 injection ea_ with ea_ en_ ec_
 subst ea_
 subst ec_
 clear en_
 )
 rotate_left
 )
 rotate_right 3
 {
 go_wp2_with (first | ((with_reducible refine gate_callee (f := 25) rfl ?_); refine goesL_ (some 103) rfl rfl Try.func25 (by kernel_rfl) rfl #[.slice A307_9 ((rd_T29 l0 x5_1).f9).length c307_9, .int .i64 (wrap64 ((wrap64 ((wrap64 ((wrap64 ((wrap64 ((wrap64 ((wrap64 ((wrap64 ((wrap64 (x1_1 + 1)) + 1)) + 1)) + 1)) + 1)) + 1)) + 1)) + 1)) + 1))] rfl wT ?_; (with_reducible refine (laws_heldByteS.calls k1 _ _ ((rd_T29 l0 x5_1).f9) (wrap64 ((wrap64 ((wrap64 ((wrap64 ((wrap64 ((wrap64 ((wrap64 ((wrap64 ((wrap64 (x1_1 + 1)) + 1)) + 1)) + 1)) + 1)) + 1)) + 1)) + 1)) + 1)) t317 _ ?side1 ?side2 A1012.out).mono ?_); (case side1 => repeat (first | exact HR316_9.out | (with_reducible refine Kd.C_alloc ?_ _) | (with_reducible refine Kd.C_drewN ?_ _) | (with_reducible refine Kd.C_drew ?_))); (case side2 => exact HC316_9.out); rintro e w' ⟨rfl, ⟨nd, rfl⟩⟩; refine ⟨_, rfl, ?_⟩))
 go_ret
 exact ⟨by first | rfl | (simp; done) | (simp [*]; done), by repeat (first | exact Drawn0.refl _ | apply Drawn0.step)⟩
 }
 iterate 2 (
 focus (
 go_wp2_with (first | ((with_reducible refine gate_callee (f := 25) rfl ?_); refine goesL_ (some 103) rfl rfl Try.func25 (by kernel_rfl) rfl #[.slice A307_9 ((rd_T29 l0 x5_1).f9).length c307_9, .int .i64 (wrap64 ((wrap64 ((wrap64 ((wrap64 ((wrap64 ((wrap64 ((wrap64 ((wrap64 ((wrap64 (x1_1 + 1)) + 1)) + 1)) + 1)) + 1)) + 1)) + 1)) + 1)) + 1))] rfl wT ?_; (with_reducible refine (laws_heldByteS.calls k1 _ _ ((rd_T29 l0 x5_1).f9) (wrap64 ((wrap64 ((wrap64 ((wrap64 ((wrap64 ((wrap64 ((wrap64 ((wrap64 ((wrap64 (x1_1 + 1)) + 1)) + 1)) + 1)) + 1)) + 1)) + 1)) + 1)) + 1)) t317 _ ?side1 ?side2 A1012.out).mono ?_); (case side1 => repeat (first | exact HR316_9.out | (with_reducible refine Kd.C_alloc ?_ _) | (with_reducible refine Kd.C_drewN ?_ _) | (with_reducible refine Kd.C_drew ?_))); (case side2 => exact HC316_9.out); rintro e w' ⟨rfl, ⟨nd, rfl⟩⟩; refine ⟨_, rfl, ?_⟩; have p318 : 0 ≤ (x5_1 : Int) := of_decide_eq_true (by first | (with_reducible assumption) | assumption); have q318 : x5_1 < (l0.length : Int) := of_decide_eq_true (by first | (with_reducible assumption) | assumption); obtain ⟨ad318, A318_9, c318_9, A318_10, c318_10, e318, hx318_0, hx318_1, hx318_2, hx318_3, hx318_4, hx318_5, hx318_6, hx318_7, hx318_8, hx318_9, hx318_10, hl318_9, hi318_9, hl318_10, hi318_10⟩ := at_T29 HR0.out x5_1 p318 q318; obtain rfl : ad307 = ad318 := (by injection e318); have HR318_9 := Aside0.mk hi318_9; have HC318_9 := Aside0.mk hl318_9; clear hi318_9 hl318_9; have HR318_10 := Aside0.mk hi318_10; have HC318_10 := Aside0.mk hl318_10; clear hi318_10 hl318_10; replace p318 := eq_true p318; replace q318 := eq_true q318; have ea_ := Option.some.inj (hx307_9.symm.trans hx318_9); injection ea_ with ea_ en_ ec_; subst ea_; subst ec_; clear en_; have ea_ := Option.some.inj (hx307_10.symm.trans hx318_10); injection ea_ with ea_ en_ ec_; subst ea_; subst ec_; clear en_) | ((with_reducible refine gate_callee (f := 25) rfl ?_); refine goesL_ (some 112) rfl rfl Try.func25 (by kernel_rfl) rfl #[.slice A307_10 ((rd_T29 l0 x5_1).f10).length c307_10, .int .i64 t317] rfl wT ?_; (with_reducible refine (laws_heldByteS.calls k1 _ _ ((rd_T29 l0 x5_1).f10) t317 t319 _ ?side1 ?side2 A1014.out).mono ?_); (case side1 => repeat (first | exact HR318_10.out | (with_reducible refine Kd.C_alloc ?_ _) | (with_reducible refine Kd.C_drewN ?_ _) | (with_reducible refine Kd.C_drew ?_))); (case side2 => exact HC318_10.out); rintro e w' ⟨rfl, ⟨nd, rfl⟩⟩; refine ⟨_, rfl, ?_⟩))
 )
 rotate_left
 )
 rotate_right 2
 {
 go_ret
 exact ⟨by first | rfl | (simp; done) | (simp [*]; done), by repeat (first | exact Drawn0.refl _ | apply Drawn0.step)⟩
 }
 {
 go_roundg k1
 case measure => have := HK1.out; omega
 case rel => exact ⟨(t319), (wrap64 (x5_1 + 1)), (by first | rfl | (simp; done) | (simp [*]; done)), (by first | rfl | (simp; done) | (simp [*]; done)), H', ⟨by have := HK1.out; omega⟩, by repeat (first | exact Drawn0.refl _ | apply Drawn0.step)⟩
 }
 {
 go_wp2
 go_ret
 exact ⟨by first | rfl | (simp; done) | (simp [*]; done), by repeat (first | exact Drawn0.refl _ | apply Drawn0.step)⟩
 }
 {
 go_wp2
 go_ret
 exact ⟨by first | rfl | (simp; done) | (simp [*]; done), by repeat (first | exact Drawn0.refl _ | apply Drawn0.step)⟩
 }
 {
 go_wp2
 go_ret
 exact ⟨by first | rfl | (simp; done) | (simp [*]; done), by repeat (first | exact Drawn0.refl _ | apply Drawn0.step)⟩
 }
 {
 go_wp2
 go_ret
 exact ⟨by first | rfl | (simp; done) | (simp [*]; done), by repeat (first | exact Drawn0.refl _ | apply Drawn0.step)⟩
 }
 {
 go_wp2
 go_ret
 exact ⟨by first | rfl | (simp; done) | (simp [*]; done), by repeat (first | exact Drawn0.refl _ | apply Drawn0.step)⟩
 }
 {
 go_wp2
 go_ret
 exact ⟨by first | rfl | (simp; done) | (simp [*]; done), by repeat (first | exact Drawn0.refl _ | apply Drawn0.step)⟩
 }
 {
 go_wp2
 go_ret
 exact ⟨by first | rfl | (simp; done) | (simp [*]; done), by repeat (first | exact Drawn0.refl _ | apply Drawn0.step)⟩
 }
 {
 go_wp2
 go_ret
 exact ⟨by first | rfl | (simp; done) | (simp [*]; done), by repeat (first | exact Drawn0.refl _ | apply Drawn0.step)⟩
 }
 }
 )

/-! ### laws_FnExactFragment: function 3 -/
/-- the blocks made between two worlds -/
def Iv (a b : Nat) (k : Nat) : Prop := a ≤ k ∧ k < b
theorem S_iv {α : Type} {d : Kd α} {e : Nat} {w1 : World} {base : Nat} {ok : Nat → Prop} {v : Value} {xs : List α} (h : Kd.S d e w1 base ok v xs) : Kd.S d e w1 base (Iv base w1.heap.size) v xs := Kd.S_mono (Kd.S_bound h) (fun _ hk => ⟨hk.2.1, hk.2.2.1⟩)
theorem R_iv {α : Type} {d : Kd α} {e : Nat} {w1 : World} {base : Nat} {ok : Nat → Prop} {v : Value} {xs : List α} (h : Kd.R d e w1 base ok v xs) : Kd.R d e w1 base (Iv base w1.heap.size) v xs := Kd.R_mono (Kd.R_bound h) (fun _ hk => ⟨hk.2.1, hk.2.2.1⟩)
theorem N_iv {α : Type} {d : Kd α} {e : Nat} {w1 : World} {base : Nat} {v : Value} {xs : List α} (h : Kd.N d e w1 base (fun k_ => base ≤ k_) v xs) : Kd.N d e w1 base (Iv base w1.heap.size) v xs := Kd.N_mono (Kd.N_bound h) (fun _ hk => ⟨hk.1, hk.2⟩)
theorem below_of_drawn {w w' : World} (h : Drawn0 w w') : Below w.heap.size w w' := by
  obtain ⟨m, rfl⟩ := h
  exact pw_below_drewN (Below.refl _ _) m
theorem C_of_S {w : World} {base : Nat} {ok : Nat → Prop} {A : Option Addr} {n c : Nat} {xs : List S29} (h : Kd.S kP 29 w base ok (.slice A n c) xs) : n = xs.length ∧ n ≤ c ∧ Kd.C k29 w A xs.length xs := Kd.S_reads' (d := kP) h
set_option maxHeartbeats 60000000 in
set_option maxRecDepth 100000 in
theorem laws_FnExactFragment.great (a0_0 a0_1 : Int) (a0_2 a0_3 : Bool) (a0_4 a0_5 a0_6 a0_7 a0_8 : Int) (A9 : Option Addr) (c9 : Nat) (l9 : List Int) (A10 : Option Addr) (c10 : Nat) (l10 : List Int) (a1 : Int) (t : Int) (w : World) (hr9 : Kd.C (Kd.int .u8) w A9 l9.length l9) (hc9 : l9.length ≤ c9) (hr10 : Kd.C (Kd.int .u8) w A10 l10.length l10) (hc10 : l10.length ≤ c10) (e0 : laws_szPacket.f a0_0 a0_1 a0_2 a0_3 a0_4 a0_5 a0_6 a0_7 a0_8 l9 l10 1048576 = some t) (ht : t < 0) :
    Calls Try.prog 3 #[.agg #[.int .i64 a0_0, .int .i64 a0_1, .bool a0_2, .bool a0_3, .int .i64 a0_4, .int .i64 a0_5, .int .i64 a0_6, .int .i64 a0_7, .int .i64 a0_8, .slice A9 l9.length c9, .slice A10 l10.length c10], .int .i64 a1] w fun e w' => e = .returned (.bool true) ∧ Below w.heap.size w w' := by
  have c0b : decide (t < 0) = true := decide_eq_true ht
  clear ht
  have hu24 := Try.underlying24
  have hu29 := Try.underlying29
  have HR9 := Aside0.mk hr9
  have HC9 := Aside0.mk hc9
  have HR10 := Aside0.mk hr10
  have HC10 := Aside0.mk hc10
  have E0 := Aside0.mk e0
  clear hr9 hc9 hr10 hc10 e0
  have HB := Aside0.mk (Below.refl w.heap.size w)
  go_enter Try.func3, Try.ntmps3
  go_wp2_with (first
    | ((with_reducible refine gate_dst (N := 2) rfl ?_); refine box_event ?hg (N := 2) ?hd (cs := #[.int .i64 a0_0, .int .i64 a0_1, .bool a0_2, .bool a0_3, .int .i64 a0_4, .int .i64 a0_5, .int .i64 a0_6, .int .i64 a0_7, .int .i64 a0_8, .slice A9 l9.length c9, .slice A10 l10.length c10]) (t := 24) ?hr ?_; (case hd => rfl); (case hg => rfl); (case hr => first | (go_simp; done) | (go_simp; rfl)); intro gb hg v1 hbox hb; have B1 := Aside0.mk (below_step HB.out hb); have KB1 := Aside0.mk (show v1.heap[gb]? = some (.cells #[.int .i64 a0_0, .int .i64 a0_1, .bool a0_2, .bool a0_3, .int .i64 a0_4, .int .i64 a0_5, .int .i64 a0_6, .int .i64 a0_7, .int .i64 a0_8, .slice A9 l9.length c9, .slice A10 l10.length c10] 24 (0, 0)) from hbox); clear hb hbox hg; obtain ⟨⟨hcz_0, hcz_1, hcz_2, hcz_3, hcz_4, hcz_5, hcz_6, hcz_7, hcz_8, hcz_9, hcz_10⟩, hfz_0, hfz_1, hfz_2, hfz_3, hfz_4, hfz_5, hfz_6, hfz_7, hfz_8, hfz_9, hfz_10⟩ := cells11 KB1.out)
    | ((with_reducible refine gate_callee (f := 4) rfl ?_); refine goesL_ (some 18) rfl rfl Try.func4 (by kernel_rfl) rfl #[.agg #[.int .i64 a0_0, .int .i64 a0_1, .bool a0_2, .bool a0_3, .int .i64 a0_4, .int .i64 a0_5, .int .i64 a0_6, .int .i64 a0_7, .int .i64 a0_8, .slice A9 l9.length c9, .slice A10 l10.length c10], .int .i64 1048576] rfl wT ?_; (with_reducible refine (laws_szPacket.calls a0_0 a0_1 a0_2 a0_3 a0_4 a0_5 a0_6 a0_7 a0_8 _ _ l9 _ _ l10 1048576 t _ ?side1 ?side2 ?side3 ?side4 E0.out).mono ?_); (case side1 => exact Kd.C_below HR9.out B1.out); (case side2 => exact HC9.out); (case side3 => exact Kd.C_below HR10.out B1.out); (case side4 => exact HC10.out); rintro e v2 ⟨rfl, hb⟩; refine ⟨_, rfl, ?_⟩; have B2 := Aside0.mk (below_step B1.out hb); have KB2 := Aside0.mk (show v2.heap[gb]? = some (.cells #[.int .i64 a0_0, .int .i64 a0_1, .bool a0_2, .bool a0_3, .int .i64 a0_4, .int .i64 a0_5, .int .i64 a0_6, .int .i64 a0_7, .int .i64 a0_8, .slice A9 l9.length c9, .slice A10 l10.length c10] 24 (0, 0)) from blk_below KB1.out hb); have M1 := Aside0.mk hb.size; clear hb; obtain ⟨⟨hcz_0, hcz_1, hcz_2, hcz_3, hcz_4, hcz_5, hcz_6, hcz_7, hcz_8, hcz_9, hcz_10⟩, hfz_0, hfz_1, hfz_2, hfz_3, hfz_4, hfz_5, hfz_6, hfz_7, hfz_8, hfz_9, hfz_10⟩ := cells11 KB2.out))
  go_ret
  exact ⟨by first | rfl | (simp; done) | (simp [*]; done), B2.out⟩
set_option maxHeartbeats 60000000 in
set_option maxRecDepth 100000 in
theorem laws_FnExactFragment.whole (k : Nat) (a0_0 a0_1 : Int) (a0_2 a0_3 : Bool) (a0_4 a0_5 a0_6 a0_7 a0_8 : Int) (A9 : Option Addr) (c9 : Nat) (l9 : List Int) (A10 : Option Addr) (c10 : Nat) (l10 : List Int) (a1 : Int) (t : Int) (ws gs gs' : List S29) (gc m z : Int) (r9 r10 : List Int) (w : World) (hr9 : Kd.C (Kd.int .u8) w A9 l9.length l9) (hc9 : l9.length ≤ c9) (hr10 : Kd.C (Kd.int .u8) w A10 l10.length l10) (hc10 : l10.length ≤ c10) (e0 : laws_szPacket.f a0_0 a0_1 a0_2 a0_3 a0_4 a0_5 a0_6 a0_7 a0_8 l9 l10 1048576 = some t) (ht : 0 ≤ t) (e1 : laws_toPacket.f k a0_0 a0_1 a0_2 a0_3 a0_4 a0_5 a0_6 a0_7 a0_8 l9 l10 = some (a0_0, a0_1, a0_2, a0_3, a0_4, a0_5, a0_6, a0_7, a0_8, l9, l10)) (e2 : spec_Fragment.f k a0_0 a0_1 a0_2 a0_3 a0_4 a0_5 a0_6 a0_7 a0_8 l9 l10 a1 = some (ws, gc)) (e3 : impl_Fragment.f k a0_0 a0_1 a0_2 a0_3 a0_4 a0_5 a0_6 a0_7 a0_8 l9 l10 a1 = some (gs, gc)) (e4 : laws_eqPacketS.f k gs ws = some true) (e5 : laws_eqPacket.f k a0_0 a0_1 a0_2 a0_3 a0_4 a0_5 a0_6 a0_7 a0_8 l9 l10 a0_0 a0_1 a0_2 a0_3 a0_4 a0_5 a0_6 a0_7 a0_8 l9 l10 = some true) (e6 : laws_markPacket.f k a0_0 a0_1 a0_2 a0_3 a0_4 a0_5 a0_6 a0_7 a0_8 l9 l10 1 = some (m, r9, r10)) (hm : 0 ≤ m) (e7 : laws_markPacketS.f k gs 1 = some (z, gs')) (e8 : laws_heldPacketS.f k gs' 1 = some z) (hz : 0 ≤ z) :
    Calls Try.prog 3 #[.agg #[.int .i64 a0_0, .int .i64 a0_1, .bool a0_2, .bool a0_3, .int .i64 a0_4, .int .i64 a0_5, .int .i64 a0_6, .int .i64 a0_7, .int .i64 a0_8, .slice A9 l9.length c9, .slice A10 l10.length c10], .int .i64 a1] w fun e w' => e = .returned (.bool true) ∧ Below w.heap.size w w' := by
  have c0b : decide (t < 0) = false := decide_eq_false (by omega)
  have cm : decide (m < 0) = false := decide_eq_false (by omega)
  have cz : decide (z < 0) = false := decide_eq_false (by omega)
  clear ht hm hz
  have hu24 := Try.underlying24
  have hu29 := Try.underlying29
  have HR9 := Aside0.mk hr9
  have HC9 := Aside0.mk hc9
  have HR10 := Aside0.mk hr10
  have HC10 := Aside0.mk hc10
  have E0 := Aside0.mk e0
  clear hr9 hc9 hr10 hc10 e0
  have HB := Aside0.mk (Below.refl w.heap.size w)
  have E1 := Aside0.mk e1
  have E2 := Aside0.mk e2
  have E3 := Aside0.mk e3
  have E4 := Aside0.mk e4
  have E5 := Aside0.mk e5
  have E6 := Aside0.mk e6
  have E7 := Aside0.mk e7
  have E8 := Aside0.mk e8
  clear e1 e2 e3 e4 e5 e6 e7 e8
  go_enter Try.func3, Try.ntmps3
  go_upto_region 10 with (first
    | ((with_reducible refine gate_dst (N := 2) rfl ?_); refine box_event ?hg (N := 2) ?hd (cs := #[.int .i64 a0_0, .int .i64 a0_1, .bool a0_2, .bool a0_3, .int .i64 a0_4, .int .i64 a0_5, .int .i64 a0_6, .int .i64 a0_7, .int .i64 a0_8, .slice A9 l9.length c9, .slice A10 l10.length c10]) (t := 24) ?hr ?_; (case hd => rfl); (case hg => rfl); (case hr => first | (go_simp; done) | (go_simp; rfl)); intro gb hg v1 hbox hb; have B1 := Aside0.mk (below_step HB.out hb); have KB1 := Aside0.mk (show v1.heap[gb]? = some (.cells #[.int .i64 a0_0, .int .i64 a0_1, .bool a0_2, .bool a0_3, .int .i64 a0_4, .int .i64 a0_5, .int .i64 a0_6, .int .i64 a0_7, .int .i64 a0_8, .slice A9 l9.length c9, .slice A10 l10.length c10] 24 (0, 0)) from hbox); clear hb hbox hg; obtain ⟨⟨hcz_0, hcz_1, hcz_2, hcz_3, hcz_4, hcz_5, hcz_6, hcz_7, hcz_8, hcz_9, hcz_10⟩, hfz_0, hfz_1, hfz_2, hfz_3, hfz_4, hfz_5, hfz_6, hfz_7, hfz_8, hfz_9, hfz_10⟩ := cells11 KB1.out)
    | ((with_reducible refine gate_callee (f := 4) rfl ?_); refine goesL_ (some 18) rfl rfl Try.func4 (by kernel_rfl) rfl #[.agg #[.int .i64 a0_0, .int .i64 a0_1, .bool a0_2, .bool a0_3, .int .i64 a0_4, .int .i64 a0_5, .int .i64 a0_6, .int .i64 a0_7, .int .i64 a0_8, .slice A9 l9.length c9, .slice A10 l10.length c10], .int .i64 1048576] rfl wT ?_; (with_reducible refine (laws_szPacket.calls a0_0 a0_1 a0_2 a0_3 a0_4 a0_5 a0_6 a0_7 a0_8 _ _ l9 _ _ l10 1048576 t _ ?side1 ?side2 ?side3 ?side4 E0.out).mono ?_); (case side1 => exact Kd.C_below HR9.out B1.out); (case side2 => exact HC9.out); (case side3 => exact Kd.C_below HR10.out B1.out); (case side4 => exact HC10.out); rintro e v2 ⟨rfl, hb⟩; refine ⟨_, rfl, ?_⟩; have B2 := Aside0.mk (below_step B1.out hb); have KB2 := Aside0.mk (show v2.heap[gb]? = some (.cells #[.int .i64 a0_0, .int .i64 a0_1, .bool a0_2, .bool a0_3, .int .i64 a0_4, .int .i64 a0_5, .int .i64 a0_6, .int .i64 a0_7, .int .i64 a0_8, .slice A9 l9.length c9, .slice A10 l10.length c10] 24 (0, 0)) from blk_below KB1.out hb); have M1 := Aside0.mk hb.size; clear hb; obtain ⟨⟨hcz_0, hcz_1, hcz_2, hcz_3, hcz_4, hcz_5, hcz_6, hcz_7, hcz_8, hcz_9, hcz_10⟩, hfz_0, hfz_1, hfz_2, hfz_3, hfz_4, hfz_5, hfz_6, hfz_7, hfz_8, hfz_9, hfz_10⟩ := cells11 KB2.out)
    | ((with_reducible refine gate_callee (f := 6) rfl ?_); refine goesL_ (some 23) rfl rfl Try.func6 (by kernel_rfl) rfl #[.agg #[.int .i64 a0_0, .int .i64 a0_1, .bool a0_2, .bool a0_3, .int .i64 a0_4, .int .i64 a0_5, .int .i64 a0_6, .int .i64 a0_7, .int .i64 a0_8, .slice A9 l9.length c9, .slice A10 l10.length c10]] rfl wT ?_; (with_reducible refine (laws_toPacket.calls k a0_0 a0_1 a0_2 a0_3 a0_4 a0_5 a0_6 a0_7 a0_8 _ _ l9 _ _ l10 a0_0 a0_1 a0_2 a0_3 a0_4 a0_5 a0_6 a0_7 a0_8 l9 l10 _ ?side1 ?side2 ?side3 ?side4 E1.out).mono ?_); (case side1 => exact Kd.C_below HR9.out B2.out); (case side2 => exact HC9.out); (case side3 => exact Kd.C_below HR10.out B2.out); (case side4 => exact HC10.out); rintro e v3 ⟨u9, u10, rfl, h9, h10, hb⟩; refine ⟨_, rfl, ?_⟩; obtain ⟨Y9, y9, eu9⟩ := Kd.R_slice h9; subst eu9; obtain ⟨Y10, y10, eu10⟩ := Kd.R_slice h10; subst eu10; have T9 := Aside0.mk h9; have T10 := Aside0.mk h10; have B3 := Aside0.mk (below_step B2.out hb); have KB3 := Aside0.mk (show v3.heap[gb]? = some (.cells #[.int .i64 a0_0, .int .i64 a0_1, .bool a0_2, .bool a0_3, .int .i64 a0_4, .int .i64 a0_5, .int .i64 a0_6, .int .i64 a0_7, .int .i64 a0_8, .slice A9 l9.length c9, .slice A10 l10.length c10] 24 (0, 0)) from blk_below KB2.out hb); have M2 := Aside0.mk hb.size; clear hb h9 h10)
    | ((with_reducible refine gate_callee (f := 5) rfl ?_); refine goesL_ (some 25) rfl rfl Try.func5 (by kernel_rfl) rfl #[.agg #[.int .i64 a0_0, .int .i64 a0_1, .bool a0_2, .bool a0_3, .int .i64 a0_4, .int .i64 a0_5, .int .i64 a0_6, .int .i64 a0_7, .int .i64 a0_8, .slice Y9 l9.length y9, .slice Y10 l10.length y10], .int .i64 a1] rfl wT ?_; (with_reducible refine (spec_Fragment.calls k a0_0 a0_1 a0_2 a0_3 a0_4 a0_5 a0_6 a0_7 a0_8 _ _ l9 _ _ l10 a1 ws gc _ ?side1 ?side2 ?side3 ?side4 E2.out).mono ?_); (case side1 => exact (Kd.R_reads' T9.out).2.2); (case side2 => exact (Kd.R_reads' T9.out).2.1); (case side3 => exact (Kd.R_reads' T10.out).2.2); (case side4 => exact (Kd.R_reads' T10.out).2.1); rintro e v4 ⟨uw, rfl, hw, hb⟩; refine ⟨_, rfl, ?_⟩; obtain ⟨Aw, cw, euw⟩ := Kd.N_slice hw; subst euw; have W4 := Aside0.mk (N_iv hw); have B4 := Aside0.mk (below_step B3.out hb); have KB4 := Aside0.mk (show v4.heap[gb]? = some (.cells #[.int .i64 a0_0, .int .i64 a0_1, .bool a0_2, .bool a0_3, .int .i64 a0_4, .int .i64 a0_5, .int .i64 a0_6, .int .i64 a0_7, .int .i64 a0_8, .slice A9 l9.length c9, .slice A10 l10.length c10] 24 (0, 0)) from blk_below KB3.out hb); have M3 := Aside0.mk hb.size; clear hb hw; obtain ⟨⟨hcz_0, hcz_1, hcz_2, hcz_3, hcz_4, hcz_5, hcz_6, hcz_7, hcz_8, hcz_9, hcz_10⟩, hfz_0, hfz_1, hfz_2, hfz_3, hfz_4, hfz_5, hfz_6, hfz_7, hfz_8, hfz_9, hfz_10⟩ := cells11 KB4.out)
    | ((with_reducible refine gate_callee (f := 6) rfl ?_); refine goesL_ (some 29) rfl rfl Try.func6 (by kernel_rfl) rfl #[.agg #[.int .i64 a0_0, .int .i64 a0_1, .bool a0_2, .bool a0_3, .int .i64 a0_4, .int .i64 a0_5, .int .i64 a0_6, .int .i64 a0_7, .int .i64 a0_8, .slice A9 l9.length c9, .slice A10 l10.length c10]] rfl wT ?_; (with_reducible refine (laws_toPacket.calls k a0_0 a0_1 a0_2 a0_3 a0_4 a0_5 a0_6 a0_7 a0_8 _ _ l9 _ _ l10 a0_0 a0_1 a0_2 a0_3 a0_4 a0_5 a0_6 a0_7 a0_8 l9 l10 _ ?side1 ?side2 ?side3 ?side4 E1.out).mono ?_); (case side1 => exact Kd.C_below HR9.out B4.out); (case side2 => exact HC9.out); (case side3 => exact Kd.C_below HR10.out B4.out); (case side4 => exact HC10.out); rintro e v5 ⟨u9, u10, rfl, h9, h10, hb⟩; refine ⟨_, rfl, ?_⟩; obtain ⟨X9, d9, eu9⟩ := Kd.R_slice h9; subst eu9; obtain ⟨X10, d10, eu10⟩ := Kd.R_slice h10; subst eu10; have XA := Aside0.mk (show ∀ k_, (.slice X9 l9.length d9 : Value).ownBlock = some k_ → (.slice X10 l10.length d10 : Value).ownBlock ≠ some k_ from fun k_ e_ e2_ => h9.1 k_ e_ e2_.symm); have R5 := Aside0.mk (R_iv h9); have Q5 := Aside0.mk (R_iv h10); have W5 := Aside0.mk (Kd.N_below W4.out hb); have B5 := Aside0.mk (below_step B4.out hb); have KB5 := Aside0.mk (show v5.heap[gb]? = some (.cells #[.int .i64 a0_0, .int .i64 a0_1, .bool a0_2, .bool a0_3, .int .i64 a0_4, .int .i64 a0_5, .int .i64 a0_6, .int .i64 a0_7, .int .i64 a0_8, .slice A9 l9.length c9, .slice A10 l10.length c10] 24 (0, 0)) from blk_below KB4.out hb); have M4 := Aside0.mk hb.size; clear hb h9 h10)
    | ((with_reducible refine gate_dst (N := 8) rfl ?_); refine box_event ?hg (N := 8) ?hd (cs := #[.int .i64 0, .int .i64 0, .bool false, .bool false, .int .i64 0, .int .i64 0, .int .i64 0, .int .i64 0, .int .i64 0, .slice none 0 0, .slice none 0 0]) (t := 29) ?hr ?_; (case hd => rfl); (case hg => rfl); (case hr => first | (go_simp; done) | (go_simp; rfl)); intro gx hg v6 hbox hb; have GX := Aside0.mk hg; have Z6 := Aside0.mk hbox; have R6 := Aside0.mk (Kd.R_below R5.out hb); have Q6 := Aside0.mk (Kd.R_below Q5.out hb); have W6 := Aside0.mk (Kd.N_below W5.out hb); have B6 := Aside0.mk (below_step B5.out hb); have KB6 := Aside0.mk (show v6.heap[gb]? = some (.cells #[.int .i64 a0_0, .int .i64 a0_1, .bool a0_2, .bool a0_3, .int .i64 a0_4, .int .i64 a0_5, .int .i64 a0_6, .int .i64 a0_7, .int .i64 a0_8, .slice A9 l9.length c9, .slice A10 l10.length c10] 24 (0, 0)) from blk_below KB5.out hb); have M5 := Aside0.mk hb.size; have NE := Aside0.mk ((by rw [hg]; exact Nat.ne_of_lt (blk_lt KB5.out)) : gb ≠ gx); clear hb hbox hg; obtain ⟨⟨hcz_0, hcz_1, hcz_2, hcz_3, hcz_4, hcz_5, hcz_6, hcz_7, hcz_8, hcz_9, hcz_10⟩, hfz_0, hfz_1, hfz_2, hfz_3, hfz_4, hfz_5, hfz_6, hfz_7, hfz_8, hfz_9, hfz_10⟩ := cells11 Z6.out)
    | ((with_reducible refine gate_store (t := 29) (p := 8) rfl ?_); refine store_event (t := 29) (p := 8) (v := ?vo_x) (w1 := (((((((((((v6.setCell ⟨gx, 0, none⟩ (.int .i64 a0_0)).setCell ⟨gx, 1, none⟩ (.int .i64 a0_1)).setCell ⟨gx, 2, none⟩ (.bool a0_2)).setCell ⟨gx, 3, none⟩ (.bool a0_3)).setCell ⟨gx, 4, none⟩ (.int .i64 a0_4)).setCell ⟨gx, 5, none⟩ (.int .i64 a0_5)).setCell ⟨gx, 6, none⟩ (.int .i64 a0_6)).setCell ⟨gx, 7, none⟩ (.int .i64 a0_7)).setCell ⟨gx, 8, none⟩ (.int .i64 a0_8)).setCell ⟨gx, 9, none⟩ (.slice X9 l9.length d9)).setCell ⟨gx, 10, none⟩ (.slice X10 l10.length d10))) ?hg ?ho ?hn ?hr ?_; (case ho => rfl); (case hg => rfl); (case hn => rfl); (case hr => first | (go_simp; done) | (go_simp; rfl)); intro v7 hw; have KX7 : Aside0 (v7.heap[gx]? = some (.cells #[.int .i64 a0_0, .int .i64 a0_1, .bool a0_2, .bool a0_3, .int .i64 a0_4, .int .i64 a0_5, .int .i64 a0_6, .int .i64 a0_7, .int .i64 a0_8, .slice X9 l9.length d9, .slice X10 l10.length d10] 29 (0, 0))) := ⟨by rw [hw]; refine blk_put (cs := #[.int .i64 a0_0, .int .i64 a0_1, .bool a0_2, .bool a0_3, .int .i64 a0_4, .int .i64 a0_5, .int .i64 a0_6, .int .i64 a0_7, .int .i64 a0_8, .slice X9 l9.length d9, .slice none 0 0]) ?_ 10 _ rfl; refine blk_put (cs := #[.int .i64 a0_0, .int .i64 a0_1, .bool a0_2, .bool a0_3, .int .i64 a0_4, .int .i64 a0_5, .int .i64 a0_6, .int .i64 a0_7, .int .i64 a0_8, .slice none 0 0, .slice none 0 0]) ?_ 9 _ rfl; refine blk_put (cs := #[.int .i64 a0_0, .int .i64 a0_1, .bool a0_2, .bool a0_3, .int .i64 a0_4, .int .i64 a0_5, .int .i64 a0_6, .int .i64 a0_7, .int .i64 0, .slice none 0 0, .slice none 0 0]) ?_ 8 _ rfl; refine blk_put (cs := #[.int .i64 a0_0, .int .i64 a0_1, .bool a0_2, .bool a0_3, .int .i64 a0_4, .int .i64 a0_5, .int .i64 a0_6, .int .i64 0, .int .i64 0, .slice none 0 0, .slice none 0 0]) ?_ 7 _ rfl; refine blk_put (cs := #[.int .i64 a0_0, .int .i64 a0_1, .bool a0_2, .bool a0_3, .int .i64 a0_4, .int .i64 a0_5, .int .i64 0, .int .i64 0, .int .i64 0, .slice none 0 0, .slice none 0 0]) ?_ 6 _ rfl; refine blk_put (cs := #[.int .i64 a0_0, .int .i64 a0_1, .bool a0_2, .bool a0_3, .int .i64 a0_4, .int .i64 0, .int .i64 0, .int .i64 0, .int .i64 0, .slice none 0 0, .slice none 0 0]) ?_ 5 _ rfl; refine blk_put (cs := #[.int .i64 a0_0, .int .i64 a0_1, .bool a0_2, .bool a0_3, .int .i64 0, .int .i64 0, .int .i64 0, .int .i64 0, .int .i64 0, .slice none 0 0, .slice none 0 0]) ?_ 4 _ rfl; refine blk_put (cs := #[.int .i64 a0_0, .int .i64 a0_1, .bool a0_2, .bool false, .int .i64 0, .int .i64 0, .int .i64 0, .int .i64 0, .int .i64 0, .slice none 0 0, .slice none 0 0]) ?_ 3 _ rfl; refine blk_put (cs := #[.int .i64 a0_0, .int .i64 a0_1, .bool false, .bool false, .int .i64 0, .int .i64 0, .int .i64 0, .int .i64 0, .int .i64 0, .slice none 0 0, .slice none 0 0]) ?_ 2 _ rfl; refine blk_put (cs := #[.int .i64 a0_0, .int .i64 0, .bool false, .bool false, .int .i64 0, .int .i64 0, .int .i64 0, .int .i64 0, .int .i64 0, .slice none 0 0, .slice none 0 0]) ?_ 1 _ rfl; refine blk_put (cs := #[.int .i64 0, .int .i64 0, .bool false, .bool false, .int .i64 0, .int .i64 0, .int .i64 0, .int .i64 0, .int .i64 0, .slice none 0 0, .slice none 0 0]) ?_ 0 _ rfl; exact Z6.out⟩; have KB7 : Aside0 (v7.heap[gb]? = some (.cells #[.int .i64 a0_0, .int .i64 a0_1, .bool a0_2, .bool a0_3, .int .i64 a0_4, .int .i64 a0_5, .int .i64 a0_6, .int .i64 a0_7, .int .i64 a0_8, .slice A9 l9.length c9, .slice A10 l10.length c10] 24 (0, 0))) := ⟨by rw [hw]; refine blk_far ?_ NE.out _; refine blk_far ?_ NE.out _; refine blk_far ?_ NE.out _; refine blk_far ?_ NE.out _; refine blk_far ?_ NE.out _; refine blk_far ?_ NE.out _; refine blk_far ?_ NE.out _; refine blk_far ?_ NE.out _; refine blk_far ?_ NE.out _; refine blk_far ?_ NE.out _; refine blk_far ?_ NE.out _; exact KB6.out⟩; have R7 : Aside0 (Kd.R (Kd.int .u8) 5 v7 v4.heap.size (Iv v4.heap.size v5.heap.size) (.slice X9 l9.length d9) l9) := ⟨by rw [hw]; exact (Kd.R_far (p := ⟨gx, 10, none⟩) (Kd.R_far (p := ⟨gx, 9, none⟩) (Kd.R_far (p := ⟨gx, 8, none⟩) (Kd.R_far (p := ⟨gx, 7, none⟩) (Kd.R_far (p := ⟨gx, 6, none⟩) (Kd.R_far (p := ⟨gx, 5, none⟩) (Kd.R_far (p := ⟨gx, 4, none⟩) (Kd.R_far (p := ⟨gx, 3, none⟩) (Kd.R_far (p := ⟨gx, 2, none⟩) (Kd.R_far (p := ⟨gx, 1, none⟩) (Kd.R_far (p := ⟨gx, 0, none⟩) R6.out (fun k_ h_ => by rw [GX.out]; exact Nat.ne_of_lt h_.2) (.int .i64 a0_0)) (fun k_ h_ => by rw [GX.out]; exact Nat.ne_of_lt h_.2) (.int .i64 a0_1)) (fun k_ h_ => by rw [GX.out]; exact Nat.ne_of_lt h_.2) (.bool a0_2)) (fun k_ h_ => by rw [GX.out]; exact Nat.ne_of_lt h_.2) (.bool a0_3)) (fun k_ h_ => by rw [GX.out]; exact Nat.ne_of_lt h_.2) (.int .i64 a0_4)) (fun k_ h_ => by rw [GX.out]; exact Nat.ne_of_lt h_.2) (.int .i64 a0_5)) (fun k_ h_ => by rw [GX.out]; exact Nat.ne_of_lt h_.2) (.int .i64 a0_6)) (fun k_ h_ => by rw [GX.out]; exact Nat.ne_of_lt h_.2) (.int .i64 a0_7)) (fun k_ h_ => by rw [GX.out]; exact Nat.ne_of_lt h_.2) (.int .i64 a0_8)) (fun k_ h_ => by rw [GX.out]; exact Nat.ne_of_lt h_.2) (.slice X9 l9.length d9)) (fun k_ h_ => by rw [GX.out]; exact Nat.ne_of_lt h_.2) (.slice X10 l10.length d10))⟩; have Q7 : Aside0 (Kd.R (Kd.int .u8) 5 v7 v4.heap.size (Iv v4.heap.size v5.heap.size) (.slice X10 l10.length d10) l10) := ⟨by rw [hw]; exact (Kd.R_far (p := ⟨gx, 10, none⟩) (Kd.R_far (p := ⟨gx, 9, none⟩) (Kd.R_far (p := ⟨gx, 8, none⟩) (Kd.R_far (p := ⟨gx, 7, none⟩) (Kd.R_far (p := ⟨gx, 6, none⟩) (Kd.R_far (p := ⟨gx, 5, none⟩) (Kd.R_far (p := ⟨gx, 4, none⟩) (Kd.R_far (p := ⟨gx, 3, none⟩) (Kd.R_far (p := ⟨gx, 2, none⟩) (Kd.R_far (p := ⟨gx, 1, none⟩) (Kd.R_far (p := ⟨gx, 0, none⟩) Q6.out (fun k_ h_ => by rw [GX.out]; exact Nat.ne_of_lt h_.2) (.int .i64 a0_0)) (fun k_ h_ => by rw [GX.out]; exact Nat.ne_of_lt h_.2) (.int .i64 a0_1)) (fun k_ h_ => by rw [GX.out]; exact Nat.ne_of_lt h_.2) (.bool a0_2)) (fun k_ h_ => by rw [GX.out]; exact Nat.ne_of_lt h_.2) (.bool a0_3)) (fun k_ h_ => by rw [GX.out]; exact Nat.ne_of_lt h_.2) (.int .i64 a0_4)) (fun k_ h_ => by rw [GX.out]; exact Nat.ne_of_lt h_.2) (.int .i64 a0_5)) (fun k_ h_ => by rw [GX.out]; exact Nat.ne_of_lt h_.2) (.int .i64 a0_6)) (fun k_ h_ => by rw [GX.out]; exact Nat.ne_of_lt h_.2) (.int .i64 a0_7)) (fun k_ h_ => by rw [GX.out]; exact Nat.ne_of_lt h_.2) (.int .i64 a0_8)) (fun k_ h_ => by rw [GX.out]; exact Nat.ne_of_lt h_.2) (.slice X9 l9.length d9)) (fun k_ h_ => by rw [GX.out]; exact Nat.ne_of_lt h_.2) (.slice X10 l10.length d10))⟩; have W7 : Aside0 (Kd.N k29 29 v7 v3.heap.size (Iv v3.heap.size v4.heap.size) (.slice Aw ws.length cw) ws) := ⟨by rw [hw]; exact (Kd.N_far (p := ⟨gx, 10, none⟩) (Kd.N_far (p := ⟨gx, 9, none⟩) (Kd.N_far (p := ⟨gx, 8, none⟩) (Kd.N_far (p := ⟨gx, 7, none⟩) (Kd.N_far (p := ⟨gx, 6, none⟩) (Kd.N_far (p := ⟨gx, 5, none⟩) (Kd.N_far (p := ⟨gx, 4, none⟩) (Kd.N_far (p := ⟨gx, 3, none⟩) (Kd.N_far (p := ⟨gx, 2, none⟩) (Kd.N_far (p := ⟨gx, 1, none⟩) (Kd.N_far (p := ⟨gx, 0, none⟩) W6.out (fun k_ h_ => by rw [GX.out]; exact Nat.ne_of_lt (Nat.lt_of_lt_of_le h_.2 M4.out)) (.int .i64 a0_0)) (fun k_ h_ => by rw [GX.out]; exact Nat.ne_of_lt (Nat.lt_of_lt_of_le h_.2 M4.out)) (.int .i64 a0_1)) (fun k_ h_ => by rw [GX.out]; exact Nat.ne_of_lt (Nat.lt_of_lt_of_le h_.2 M4.out)) (.bool a0_2)) (fun k_ h_ => by rw [GX.out]; exact Nat.ne_of_lt (Nat.lt_of_lt_of_le h_.2 M4.out)) (.bool a0_3)) (fun k_ h_ => by rw [GX.out]; exact Nat.ne_of_lt (Nat.lt_of_lt_of_le h_.2 M4.out)) (.int .i64 a0_4)) (fun k_ h_ => by rw [GX.out]; exact Nat.ne_of_lt (Nat.lt_of_lt_of_le h_.2 M4.out)) (.int .i64 a0_5)) (fun k_ h_ => by rw [GX.out]; exact Nat.ne_of_lt (Nat.lt_of_lt_of_le h_.2 M4.out)) (.int .i64 a0_6)) (fun k_ h_ => by rw [GX.out]; exact Nat.ne_of_lt (Nat.lt_of_lt_of_le h_.2 M4.out)) (.int .i64 a0_7)) (fun k_ h_ => by rw [GX.out]; exact Nat.ne_of_lt (Nat.lt_of_lt_of_le h_.2 M4.out)) (.int .i64 a0_8)) (fun k_ h_ => by rw [GX.out]; exact Nat.ne_of_lt (Nat.lt_of_lt_of_le h_.2 M4.out)) (.slice X9 l9.length d9)) (fun k_ h_ => by rw [GX.out]; exact Nat.ne_of_lt (Nat.lt_of_lt_of_le h_.2 M4.out)) (.slice X10 l10.length d10))⟩; have GW := Aside0.mk ((by rw [GX.out]; exact B5.out.size) : w.heap.size ≤ gx); have B7 : Aside0 (Below w.heap.size w v7) := ⟨by rw [hw]; refine below_set ?_ GW.out; refine below_set ?_ GW.out; refine below_set ?_ GW.out; refine below_set ?_ GW.out; refine below_set ?_ GW.out; refine below_set ?_ GW.out; refine below_set ?_ GW.out; refine below_set ?_ GW.out; refine below_set ?_ GW.out; refine below_set ?_ GW.out; refine below_set ?_ GW.out; exact B6.out⟩; have M6 : Aside0 (v5.heap.size ≤ v7.heap.size) := ⟨by rw [hw]; simp only [World.setCell, Array.size_modify, Array.size_setIfInBounds]; first | exact M5.out | (simp; exact M5.out)⟩; clear hw hcz_0 hcz_1 hcz_2 hcz_3 hcz_4 hcz_5 hcz_6 hcz_7 hcz_8 hcz_9 hcz_10 hfz_0 hfz_1 hfz_2 hfz_3 hfz_4 hfz_5 hfz_6 hfz_7 hfz_8 hfz_9 hfz_10; obtain ⟨⟨hcz_0, hcz_1, hcz_2, hcz_3, hcz_4, hcz_5, hcz_6, hcz_7, hcz_8, hcz_9, hcz_10⟩, hfz_0, hfz_1, hfz_2, hfz_3, hfz_4, hfz_5, hfz_6, hfz_7, hfz_8, hfz_9, hfz_10⟩ := cells11 KX7.out)
    | ((with_reducible refine gate_callee (f := 7) rfl ?_); refine goesL_ (some 33) rfl rfl Try.func7 (by kernel_rfl) rfl #[.agg #[.int .i64 a0_0, .int .i64 a0_1, .bool a0_2, .bool a0_3, .int .i64 a0_4, .int .i64 a0_5, .int .i64 a0_6, .int .i64 a0_7, .int .i64 a0_8, .slice X9 l9.length d9, .slice X10 l10.length d10], .int .i64 a1] rfl wT ?_; (with_reducible refine (impl_Fragment.calls k a0_0 a0_1 a0_2 a0_3 a0_4 a0_5 a0_6 a0_7 a0_8 _ _ l9 _ _ l10 a1 gs gc _ ?side1 ?side2 ?side3 ?side4 E3.out).mono ?_); (case side1 => exact (Kd.R_reads' R7.out).2.2); (case side2 => exact (Kd.R_reads' R7.out).2.1); (case side3 => exact (Kd.R_reads' Q7.out).2.2); (case side4 => exact (Kd.R_reads' Q7.out).2.1); rintro e v8 ⟨ug, rfl, hg, hb⟩; refine ⟨_, rfl, ?_⟩; obtain ⟨Ag, cg, eug⟩ := Kd.S_slice hg; subst eug; have G8 := Aside0.mk (S_iv hg); have R8 := Aside0.mk (Kd.R_below R7.out hb); have Q8 := Aside0.mk (Kd.R_below Q7.out hb); have W8 := Aside0.mk (Kd.N_below W7.out hb); have B8 := Aside0.mk (below_step B7.out hb); have KB8 := Aside0.mk (show v8.heap[gb]? = some (.cells #[.int .i64 a0_0, .int .i64 a0_1, .bool a0_2, .bool a0_3, .int .i64 a0_4, .int .i64 a0_5, .int .i64 a0_6, .int .i64 a0_7, .int .i64 a0_8, .slice A9 l9.length c9, .slice A10 l10.length c10] 24 (0, 0)) from blk_below KB7.out hb); have KX8 := Aside0.mk (show v8.heap[gx]? = some (.cells #[.int .i64 a0_0, .int .i64 a0_1, .bool a0_2, .bool a0_3, .int .i64 a0_4, .int .i64 a0_5, .int .i64 a0_6, .int .i64 a0_7, .int .i64 a0_8, .slice X9 l9.length d9, .slice X10 l10.length d10] 29 (0, 0)) from blk_below KX7.out hb); clear hb hg)
    | ((with_reducible refine gate_callee (f := 8) rfl ?_); refine goesL_ (some 38) rfl rfl Try.func8 (by kernel_rfl) rfl #[.slice Ag gs.length cg, .slice Aw ws.length cw] rfl wT ?_; (with_reducible refine (laws_eqPacketS.calls k Ag cg gs Aw cw ws true _ ?side1 ?side2 ?side3 ?side4 E4.out).mono ?_); (case side1 => exact (C_of_S G8.out).2.2); (case side2 => exact (C_of_S G8.out).2.1); (case side3 => exact (Kd.N_reads' W8.out).2.2); (case side4 => exact (Kd.N_reads' W8.out).2.1); rintro e v9 ⟨rfl, hb⟩; refine ⟨_, rfl, ?_⟩; have R9 := Aside0.mk (Kd.R_below R8.out hb); have Q9 := Aside0.mk (Kd.R_below Q8.out hb); have W9 := Aside0.mk (Kd.N_below W8.out hb); have G9 := Aside0.mk (Kd.S_below G8.out hb); have B9 := Aside0.mk (below_step B8.out hb); have KB9 := Aside0.mk (show v9.heap[gb]? = some (.cells #[.int .i64 a0_0, .int .i64 a0_1, .bool a0_2, .bool a0_3, .int .i64 a0_4, .int .i64 a0_5, .int .i64 a0_6, .int .i64 a0_7, .int .i64 a0_8, .slice A9 l9.length c9, .slice A10 l10.length c10] 24 (0, 0)) from blk_below KB8.out hb); have KX9 := Aside0.mk (show v9.heap[gx]? = some (.cells #[.int .i64 a0_0, .int .i64 a0_1, .bool a0_2, .bool a0_3, .int .i64 a0_4, .int .i64 a0_5, .int .i64 a0_6, .int .i64 a0_7, .int .i64 a0_8, .slice X9 l9.length d9, .slice X10 l10.length d10] 29 (0, 0)) from blk_below KX8.out hb); clear hb))
  have BW : Aside0 (w.heap.size ≤ v4.heap.size) := ⟨B4.out.size⟩
  have BG : Aside0 (w.heap.size ≤ v7.heap.size) := ⟨B7.out.size⟩
  have GL : Aside0 (gb < v4.heap.size) := ⟨blk_lt KB4.out⟩
  refine start_ (n := 5) (S := fun w' => w'.cell? ⟨gx, 0, none⟩ = some (.int .i64 a0_0) ∧ w'.cell? ⟨gx, 1, none⟩ = some (.int .i64 a0_1) ∧ w'.cell? ⟨gx, 2, none⟩ = some (.bool a0_2) ∧ w'.cell? ⟨gx, 3, none⟩ = some (.bool a0_3) ∧ w'.cell? ⟨gx, 4, none⟩ = some (.int .i64 a0_4) ∧ w'.cell? ⟨gx, 5, none⟩ = some (.int .i64 a0_5) ∧ w'.cell? ⟨gx, 6, none⟩ = some (.int .i64 a0_6) ∧ w'.cell? ⟨gx, 7, none⟩ = some (.int .i64 a0_7) ∧ w'.cell? ⟨gx, 8, none⟩ = some (.int .i64 a0_8) ∧ w'.cell? ⟨gx, 9, none⟩ = some (.slice X9 l9.length d9) ∧ w'.cell? ⟨gx, 10, none⟩ = some (.slice X10 l10.length d10) ∧ w'.cell? ⟨gb, 0, none⟩ = some (.int .i64 a0_0) ∧ w'.cell? ⟨gb, 1, none⟩ = some (.int .i64 a0_1) ∧ w'.cell? ⟨gb, 2, none⟩ = some (.bool a0_2) ∧ w'.cell? ⟨gb, 3, none⟩ = some (.bool a0_3) ∧ w'.cell? ⟨gb, 4, none⟩ = some (.int .i64 a0_4) ∧ w'.cell? ⟨gb, 5, none⟩ = some (.int .i64 a0_5) ∧ w'.cell? ⟨gb, 6, none⟩ = some (.int .i64 a0_6) ∧ w'.cell? ⟨gb, 7, none⟩ = some (.int .i64 a0_7) ∧ w'.cell? ⟨gb, 8, none⟩ = some (.int .i64 a0_8) ∧ w'.cell? ⟨gb, 9, none⟩ = some (.slice A9 l9.length c9) ∧ w'.cell? ⟨gb, 10, none⟩ = some (.slice A10 l10.length c10)) (ds := []) #[false, false, false, false, false] (by kernel_rfl) rfl rfl ⟨(blk_cell (blk_drew KX9.out) 0).trans rfl, (blk_cell (blk_drew KX9.out) 1).trans rfl, (blk_cell (blk_drew KX9.out) 2).trans rfl, (blk_cell (blk_drew KX9.out) 3).trans rfl, (blk_cell (blk_drew KX9.out) 4).trans rfl, (blk_cell (blk_drew KX9.out) 5).trans rfl, (blk_cell (blk_drew KX9.out) 6).trans rfl, (blk_cell (blk_drew KX9.out) 7).trans rfl, (blk_cell (blk_drew KX9.out) 8).trans rfl, (blk_cell (blk_drew KX9.out) 9).trans rfl, (blk_cell (blk_drew KX9.out) 10).trans rfl, (blk_cell (blk_drew KB9.out) 0).trans rfl, (blk_cell (blk_drew KB9.out) 1).trans rfl, (blk_cell (blk_drew KB9.out) 2).trans rfl, (blk_cell (blk_drew KB9.out) 3).trans rfl, (blk_cell (blk_drew KB9.out) 4).trans rfl, (blk_cell (blk_drew KB9.out) 5).trans rfl, (blk_cell (blk_drew KB9.out) 6).trans rfl, (blk_cell (blk_drew KB9.out) 7).trans rfl, (blk_cell (blk_drew KB9.out) 8).trans rfl, (blk_cell (blk_drew KB9.out) 9).trans rfl, (blk_cell (blk_drew KB9.out) 10).trans rfl⟩ (fun hHeld => ?_)
  have B10 := Aside0.mk (below_drew1 B9.out)
  have KB10 := Aside0.mk (blk_drew KB9.out)
  have KX10 := Aside0.mk (blk_drew KX9.out)
  have W10 := Aside0.mk (Kd.N_drew W9.out)
  have R10 := Aside0.mk (Kd.R_drew R9.out)
  have Q10 := Aside0.mk (Kd.R_drew Q9.out)
  have G10 := Aside0.mk (Kd.S_drew G9.out)
  clear B1 B2 B3 B4 B5 B6 B7 B8 B9 KB1 KB2 KB3 KB4 KB5 KB6 KB7 KB8 KB9 KX7 KX8 KX9 Z6 T9 T10 W4 W5 W6 W7 W8 W9 R5 R6 R7 R8 R9 Q5 Q6 Q7 Q8 Q9 G8 G9
  generalize v9.drew = q0 at B10 KB10 KX10 W10 R10 Q10 G10 hHeld ⊢
  refine take_ (i := 0) (N := some 45) (v := ?_) (a' := ?_) #[true, false, false, false, false] rfl rfl (by kernel_rfl) (fun _ _ _ h => h) (Or.inl ⟨by rfl, ?_⟩) hHeld ?_ ?_
  rotate_left
  {
    rintro w' ⟨s0, s1, s2, s3, s4, s5, s6, s7, s8, s9, s10, s11, s12, s13, s14, s15, s16, s17, s18, s19, s20, s21⟩
    go_simp
    with_reducible rfl
  }
  rotate_left
  {
    simp only [Act.put, List.setIfInBounds_toArray, List.set_cons_zero, List.set_cons_succ, i64_w, i32_w]
    rfl
  }
  refine take_ (i := 1) (N := some 46) (v := ?_) (a' := ?_) #[true, true, false, false, false] rfl rfl (by kernel_rfl) (fun _ _ _ h => h) (Or.inl ⟨by rfl, ?_⟩) hHeld ?_ ?_
  rotate_left
  {
    rintro w' ⟨s0, s1, s2, s3, s4, s5, s6, s7, s8, s9, s10, s11, s12, s13, s14, s15, s16, s17, s18, s19, s20, s21⟩
    go_simp
    with_reducible rfl
  }
  rotate_left
  {
    simp only [Act.put, List.setIfInBounds_toArray, List.set_cons_zero, List.set_cons_succ, i64_w, i32_w]
    rfl
  }
  refine one_ (i := 2) (N := some 47) #[true, true, true, false, false] rfl rfl (by kernel_rfl) (by decide) (fun K hK => ?_)
  refine goes_ Try.func6 (by kernel_rfl) rfl #[.agg #[.int .i64 a0_0, .int .i64 a0_1, .bool a0_2, .bool a0_3, .int .i64 a0_4, .int .i64 a0_5, .int .i64 a0_6, .int .i64 a0_7, .int .i64 a0_8, .slice A9 l9.length c9, .slice A10 l10.length c10]] (by rfl) rfl rfl wT ?_
  with_reducible refine (laws_toPacket.calls k a0_0 a0_1 a0_2 a0_3 a0_4 a0_5 a0_6 a0_7 a0_8 _ _ l9 _ _ l10 a0_0 a0_1 a0_2 a0_3 a0_4 a0_5 a0_6 a0_7 a0_8 l9 l10 _ ?side1 ?side2 ?side3 ?side4 E1.out).mono ?_
  (case side1 => exact Kd.C_below HR9.out B10.out)
  (case side2 => exact HC9.out)
  (case side3 => exact Kd.C_below HR10.out B10.out)
  (case side4 => exact HC10.out)
  rintro e q1 ⟨u9, u10, rfl, h9, h10, hb⟩
  refine ⟨_, rfl, ?_⟩
  obtain ⟨Z9, z9, eu9⟩ := Kd.R_slice h9
  subst eu9
  obtain ⟨Z10, z10, eu10⟩ := Kd.R_slice h10
  subst eu10
  have F9 := Aside0.mk h9
  have F10 := Aside0.mk h10
  have B11 := Aside0.mk (below_step B10.out hb)
  have KB11 := Aside0.mk (show q1.heap[gb]? = some (.cells #[.int .i64 a0_0, .int .i64 a0_1, .bool a0_2, .bool a0_3, .int .i64 a0_4, .int .i64 a0_5, .int .i64 a0_6, .int .i64 a0_7, .int .i64 a0_8, .slice A9 l9.length c9, .slice A10 l10.length c10] 24 (0, 0)) from blk_below KB10.out hb)
  have KX11 := Aside0.mk (show q1.heap[gx]? = some (.cells #[.int .i64 a0_0, .int .i64 a0_1, .bool a0_2, .bool a0_3, .int .i64 a0_4, .int .i64 a0_5, .int .i64 a0_6, .int .i64 a0_7, .int .i64 a0_8, .slice X9 l9.length d9, .slice X10 l10.length d10] 29 (0, 0)) from blk_below KX10.out hb)
  have W11 := Aside0.mk (Kd.N_below W10.out hb)
  have R11 := Aside0.mk (Kd.R_below R10.out hb)
  have Q11 := Aside0.mk (Kd.R_below Q10.out hb)
  have G11 := Aside0.mk (Kd.S_below G10.out hb)
  clear hb h9 h10 B10 KB10 KX10 W10 R10 Q10 G10 hHeld
  refine hK.out _ _ ⟨(blk_cell KX11.out 0).trans rfl, (blk_cell KX11.out 1).trans rfl, (blk_cell KX11.out 2).trans rfl, (blk_cell KX11.out 3).trans rfl, (blk_cell KX11.out 4).trans rfl, (blk_cell KX11.out 5).trans rfl, (blk_cell KX11.out 6).trans rfl, (blk_cell KX11.out 7).trans rfl, (blk_cell KX11.out 8).trans rfl, (blk_cell KX11.out 9).trans rfl, (blk_cell KX11.out 10).trans rfl, (blk_cell KB11.out 0).trans rfl, (blk_cell KB11.out 1).trans rfl, (blk_cell KB11.out 2).trans rfl, (blk_cell KB11.out 3).trans rfl, (blk_cell KB11.out 4).trans rfl, (blk_cell KB11.out 5).trans rfl, (blk_cell KB11.out 6).trans rfl, (blk_cell KB11.out 7).trans rfl, (blk_cell KB11.out 8).trans rfl, (blk_cell KB11.out 9).trans rfl, (blk_cell KB11.out 10).trans rfl⟩ (fun hHeld => ?_)
  clear hK K
  refine norm_ (a' := ?_) ?_ ?_
  rotate_left
  {
    show Act.put _ (some 47) _ = _
    simp only [Act.put, List.setIfInBounds_toArray, List.set_cons_zero, List.set_cons_succ, i64_w, i32_w]
    rfl
  }
  refine one_ (i := 3) (N := some 48) #[true, true, true, true, false] rfl rfl (by kernel_rfl) (by decide) (fun K hK => ?_)
  refine goes_ Try.func9 (by kernel_rfl) rfl #[.agg #[.int .i64 a0_0, .int .i64 a0_1, .bool a0_2, .bool a0_3, .int .i64 a0_4, .int .i64 a0_5, .int .i64 a0_6, .int .i64 a0_7, .int .i64 a0_8, .slice X9 l9.length d9, .slice X10 l10.length d10], .agg #[.int .i64 a0_0, .int .i64 a0_1, .bool a0_2, .bool a0_3, .int .i64 a0_4, .int .i64 a0_5, .int .i64 a0_6, .int .i64 a0_7, .int .i64 a0_8, .slice Z9 l9.length z9, .slice Z10 l10.length z10]] (by rfl) rfl rfl wT ?_
  with_reducible refine (laws_eqPacket.calls k a0_0 a0_1 a0_2 a0_3 a0_4 a0_5 a0_6 a0_7 a0_8 _ _ l9 _ _ l10 a0_0 a0_1 a0_2 a0_3 a0_4 a0_5 a0_6 a0_7 a0_8 _ _ l9 _ _ l10 true _ ?side1 ?side2 ?side3 ?side4 ?side5 ?side6 ?side7 ?side8 E5.out).mono ?_
  (case side1 => exact (Kd.R_reads' R11.out).2.2)
  (case side2 => exact (Kd.R_reads' R11.out).2.1)
  (case side3 => exact (Kd.R_reads' Q11.out).2.2)
  (case side4 => exact (Kd.R_reads' Q11.out).2.1)
  (case side5 => exact (Kd.R_reads' F9.out).2.2)
  (case side6 => exact (Kd.R_reads' F9.out).2.1)
  (case side7 => exact (Kd.R_reads' F10.out).2.2)
  (case side8 => exact (Kd.R_reads' F10.out).2.1)
  rintro e q2 ⟨rfl, hb⟩
  refine ⟨_, rfl, ?_⟩
  have B9 := Aside0.mk (below_step B11.out hb)
  have KB9 := Aside0.mk (show q2.heap[gb]? = some (.cells #[.int .i64 a0_0, .int .i64 a0_1, .bool a0_2, .bool a0_3, .int .i64 a0_4, .int .i64 a0_5, .int .i64 a0_6, .int .i64 a0_7, .int .i64 a0_8, .slice A9 l9.length c9, .slice A10 l10.length c10] 24 (0, 0)) from blk_below KB11.out hb)
  have KX9 := Aside0.mk (show q2.heap[gx]? = some (.cells #[.int .i64 a0_0, .int .i64 a0_1, .bool a0_2, .bool a0_3, .int .i64 a0_4, .int .i64 a0_5, .int .i64 a0_6, .int .i64 a0_7, .int .i64 a0_8, .slice X9 l9.length d9, .slice X10 l10.length d10] 29 (0, 0)) from blk_below KX11.out hb)
  have W9 := Aside0.mk (Kd.N_below W11.out hb)
  have R9 := Aside0.mk (Kd.R_below R11.out hb)
  have Q9 := Aside0.mk (Kd.R_below Q11.out hb)
  have G9 := Aside0.mk (Kd.S_below G11.out hb)
  clear hb B11 KB11 KX11 W11 R11 Q11 G11 hHeld F9 F10
  refine hK.out _ _ ⟨(blk_cell KX9.out 0).trans rfl, (blk_cell KX9.out 1).trans rfl, (blk_cell KX9.out 2).trans rfl, (blk_cell KX9.out 3).trans rfl, (blk_cell KX9.out 4).trans rfl, (blk_cell KX9.out 5).trans rfl, (blk_cell KX9.out 6).trans rfl, (blk_cell KX9.out 7).trans rfl, (blk_cell KX9.out 8).trans rfl, (blk_cell KX9.out 9).trans rfl, (blk_cell KX9.out 10).trans rfl, (blk_cell KB9.out 0).trans rfl, (blk_cell KB9.out 1).trans rfl, (blk_cell KB9.out 2).trans rfl, (blk_cell KB9.out 3).trans rfl, (blk_cell KB9.out 4).trans rfl, (blk_cell KB9.out 5).trans rfl, (blk_cell KB9.out 6).trans rfl, (blk_cell KB9.out 7).trans rfl, (blk_cell KB9.out 8).trans rfl, (blk_cell KB9.out 9).trans rfl, (blk_cell KB9.out 10).trans rfl⟩ (fun hHeld => ?_)
  clear hK K
  refine norm_ (a' := ?_) ?_ ?_
  rotate_left
  {
    show Act.put _ (some 48) _ = _
    simp only [Act.put, List.setIfInBounds_toArray, List.set_cons_zero, List.set_cons_succ, i64_w, i32_w]
    rfl
  }
  refine pure_ (i := 4) (N := some 49) (v := ?_) (a' := ?_) #[true, true, true, true, true] rfl rfl (by kernel_rfl) (fun _ _ _ h => h) (Or.inl ⟨by rfl, ?_⟩) ?_ ?_
  rotate_left
  {
    intro w'
    go_simp
    with_reducible rfl
  }
  rotate_left
  {
    simp only [Act.put, List.setIfInBounds_toArray, List.set_cons_zero, List.set_cons_succ, i64_w, i32_w]
    rfl
  }
  refine done_ (by kernel_rfl) ?_
  clear hHeld
  obtain ⟨⟨hcz_0, hcz_1, hcz_2, hcz_3, hcz_4, hcz_5, hcz_6, hcz_7, hcz_8, hcz_9, hcz_10⟩, hfz_0, hfz_1, hfz_2, hfz_3, hfz_4, hfz_5, hfz_6, hfz_7, hfz_8, hfz_9, hfz_10⟩ := cells11 KX9.out
  go_wp2_with (first
    | ((with_reducible refine gate_callee (f := 10) rfl ?_); refine goesL_ (some 52) rfl rfl Try.func10 (by kernel_rfl) rfl #[.agg #[.int .i64 a0_0, .int .i64 a0_1, .bool a0_2, .bool a0_3, .int .i64 a0_4, .int .i64 a0_5, .int .i64 a0_6, .int .i64 a0_7, .int .i64 a0_8, .slice X9 l9.length d9, .slice X10 l10.length d10], .int .i64 1] rfl wT ?_; (with_reducible refine (laws_markPacket.calls k a0_0 a0_1 a0_2 a0_3 a0_4 a0_5 a0_6 a0_7 a0_8 (fun k_ => some k_ = (.slice X9 l9.length d9 : Value).ownBlock) (.slice X9 l9.length d9) l9 (fun k_ => some k_ = (.slice X10 l10.length d10 : Value).ownBlock) (.slice X10 l10.length d10) l10 1 m r9 r10 w _ ?side1 ?side2 ?side3 ?side4 ?side5 E6.out).mono ?_); (case side1 => exact B9.out); (case side2 => exact Kd.R_lower (Kd.R_tight rfl R9.out) BW.out); (case side3 => exact fun k_ h_ h2_ => XA.out k_ h_.symm h2_.symm); (case side4 => exact Kd.R_lower (Kd.R_tight rfl Q9.out) BW.out); (case side5 => exact fun k_ h_ h2_ => XA.out k_ h2_.symm h_.symm); rintro e v12 ⟨rfl, hy9, hy10, hb, hk⟩; refine ⟨_, rfl, ?_⟩; have PX := Aside0.mk (show ∀ k_, (some k_ = (.slice X9 l9.length d9 : Value).ownBlock ∨ some k_ = (.slice X10 l10.length d10 : Value).ownBlock) → Iv v4.heap.size v5.heap.size k_ from fun k_ h_ => h_.elim (fun e_ => R9.out.1 k_ e_.symm) (fun e_ => Q9.out.1 k_ e_.symm)); have W12 := Aside0.mk (Kd.N_kept W9.out hk (fun k_ h_ h2_ => Nat.not_le.2 h_.2 (PX.out k_ h2_).1)); have G12 := Aside0.mk (Kd.S_kept G9.out hk (fun k_ h_ h2_ => Nat.not_le.2 (PX.out k_ h2_).2 (Nat.le_trans M6.out h_.1))); have KB12 := Aside0.mk (show v12.heap[gb]? = some (.cells #[.int .i64 a0_0, .int .i64 a0_1, .bool a0_2, .bool a0_3, .int .i64 a0_4, .int .i64 a0_5, .int .i64 a0_6, .int .i64 a0_7, .int .i64 a0_8, .slice A9 l9.length c9, .slice A10 l10.length c10] 24 (0, 0)) from blk_kept KB9.out hk (fun h2_ => Nat.not_le.2 GL.out (PX.out gb h2_).1)); have B12 := Aside0.mk hb; clear hy9 hy10 hb hk)
    | (go_at_call 8; (with_reducible refine (laws_eqPacketS.calls k Ag cg gs Aw cw ws true _ ?side1 ?side2 ?side3 ?side4 E4.out).mono ?_); (case side1 => exact (C_of_S G12.out).2.2); (case side2 => exact (C_of_S G12.out).2.1); (case side3 => exact (Kd.N_reads' W12.out).2.2); (case side4 => exact (Kd.N_reads' W12.out).2.1); rintro e v13 ⟨rfl, hb⟩; have W13 := Aside0.mk (Kd.N_below W12.out hb); have G13 := Aside0.mk (Kd.S_below G12.out hb); have KB13 := Aside0.mk (show v13.heap[gb]? = some (.cells #[.int .i64 a0_0, .int .i64 a0_1, .bool a0_2, .bool a0_3, .int .i64 a0_4, .int .i64 a0_5, .int .i64 a0_6, .int .i64 a0_7, .int .i64 a0_8, .slice A9 l9.length c9, .slice A10 l10.length c10] 24 (0, 0)) from blk_below KB12.out hb); have B13 := Aside0.mk (below_step B12.out hb); clear hb)
    | ((with_reducible refine gate_callee (f := 11) rfl ?_); refine goesL_ (some 68) rfl rfl Try.func11 (by kernel_rfl) rfl #[.slice Ag gs.length cg, .int .i64 1] rfl wT ?_; (with_reducible refine (laws_markPacketS.calls k (Iv v7.heap.size v8.heap.size) (.slice Ag gs.length cg) gs 1 z gs' w _ ?side1 ?side2 E7.out).mono ?_); (case side1 => exact B13.out); (case side2 => exact Kd.S_lower G13.out BG.out); rintro e v14 ⟨rfl, hy, hb, hk⟩; refine ⟨_, rfl, ?_⟩; have G14 := Aside0.mk hy; have NL := Aside0.mk (C_of_S hy).1; have W14 := Aside0.mk (Kd.N_kept W13.out hk (fun k_ h_ h2_ => Nat.not_le.2 h_.2 (Nat.le_trans M4.out (Nat.le_trans M6.out h2_.1)))); have KB14 := Aside0.mk (show v14.heap[gb]? = some (.cells #[.int .i64 a0_0, .int .i64 a0_1, .bool a0_2, .bool a0_3, .int .i64 a0_4, .int .i64 a0_5, .int .i64 a0_6, .int .i64 a0_7, .int .i64 a0_8, .slice A9 l9.length c9, .slice A10 l10.length c10] 24 (0, 0)) from blk_kept KB13.out hk (fun h2_ => Nat.not_le.2 GL.out (Nat.le_trans M4.out (Nat.le_trans M6.out h2_.1)))); have B14 := Aside0.mk hb; clear hy hb hk)
    | ((with_reducible refine gate_callee (f := 12) rfl ?_); refine goesL_ (some 71) rfl rfl Try.func12 (by kernel_rfl) rfl #[.slice Ag gs'.length cg, .int .i64 1] rfl (by first | (rw [← NL.out]; exact wT) | (rw [← NL.out]; rfl)) ?_; (with_reducible refine (laws_heldPacketS.calls k Ag cg gs' 1 z _ ?side1 ?side2 E8.out).mono ?_); (case side1 => exact (C_of_S G14.out).2.2); (case side2 => exact (NL.out ▸ (C_of_S G14.out).2.1)); rintro e v15 ⟨rfl, dd⟩; refine ⟨_, rfl, ?_⟩; have hb := below_of_drawn dd; have W15 := Aside0.mk (Kd.N_below W14.out hb); have G15 := Aside0.mk (Kd.S_below G14.out hb); have KB15 := Aside0.mk (show v15.heap[gb]? = some (.cells #[.int .i64 a0_0, .int .i64 a0_1, .bool a0_2, .bool a0_3, .int .i64 a0_4, .int .i64 a0_5, .int .i64 a0_6, .int .i64 a0_7, .int .i64 a0_8, .slice A9 l9.length c9, .slice A10 l10.length c10] 24 (0, 0)) from blk_below KB14.out hb); have B15 := Aside0.mk (below_step B14.out hb); obtain ⟨⟨hcz_0, hcz_1, hcz_2, hcz_3, hcz_4, hcz_5, hcz_6, hcz_7, hcz_8, hcz_9, hcz_10⟩, hfz_0, hfz_1, hfz_2, hfz_3, hfz_4, hfz_5, hfz_6, hfz_7, hfz_8, hfz_9, hfz_10⟩ := cells11 KB15.out; clear hb dd)
    | ((with_reducible refine gate_callee (f := 6) rfl ?_); refine goesL_ (some 79) rfl rfl Try.func6 (by kernel_rfl) rfl #[.agg #[.int .i64 a0_0, .int .i64 a0_1, .bool a0_2, .bool a0_3, .int .i64 a0_4, .int .i64 a0_5, .int .i64 a0_6, .int .i64 a0_7, .int .i64 a0_8, .slice A9 l9.length c9, .slice A10 l10.length c10]] rfl wT ?_; (with_reducible refine (laws_toPacket.calls k a0_0 a0_1 a0_2 a0_3 a0_4 a0_5 a0_6 a0_7 a0_8 _ _ l9 _ _ l10 a0_0 a0_1 a0_2 a0_3 a0_4 a0_5 a0_6 a0_7 a0_8 l9 l10 _ ?side1 ?side2 ?side3 ?side4 E1.out).mono ?_); (case side1 => exact Kd.C_below HR9.out B15.out); (case side2 => exact HC9.out); (case side3 => exact Kd.C_below HR10.out B15.out); (case side4 => exact HC10.out); rintro e v16 ⟨u9, u10, rfl, h9, h10, hb⟩; refine ⟨_, rfl, ?_⟩; obtain ⟨Y9, y9, eu9⟩ := Kd.R_slice h9; subst eu9; obtain ⟨Y10, y10, eu10⟩ := Kd.R_slice h10; subst eu10; have T9 := Aside0.mk h9; have T10 := Aside0.mk h10; have W16 := Aside0.mk (Kd.N_below W15.out hb); have G16 := Aside0.mk (Kd.S_below G15.out hb); have B16 := Aside0.mk (below_step B15.out hb); clear hb h9 h10)
    | ((with_reducible refine gate_callee (f := 7) rfl ?_); refine goesL_ (some 81) rfl rfl Try.func7 (by kernel_rfl) rfl #[.agg #[.int .i64 a0_0, .int .i64 a0_1, .bool a0_2, .bool a0_3, .int .i64 a0_4, .int .i64 a0_5, .int .i64 a0_6, .int .i64 a0_7, .int .i64 a0_8, .slice Y9 l9.length y9, .slice Y10 l10.length y10], .int .i64 a1] rfl wT ?_; (with_reducible refine (impl_Fragment.calls k a0_0 a0_1 a0_2 a0_3 a0_4 a0_5 a0_6 a0_7 a0_8 _ _ l9 _ _ l10 a1 gs gc _ ?side1 ?side2 ?side3 ?side4 E3.out).mono ?_); (case side1 => exact (Kd.R_reads' T9.out).2.2); (case side2 => exact (Kd.R_reads' T9.out).2.1); (case side3 => exact (Kd.R_reads' T10.out).2.2); (case side4 => exact (Kd.R_reads' T10.out).2.1); rintro e v17 ⟨uh, rfl, hh, hb⟩; refine ⟨_, rfl, ?_⟩; obtain ⟨Ah, ch, euh⟩ := Kd.S_slice hh; subst euh; have H17 := Aside0.mk hh; have W17 := Aside0.mk (Kd.N_below W16.out hb); have G17 := Aside0.mk (Kd.S_below G16.out hb); have B17 := Aside0.mk (below_step B16.out hb); clear hb hh)
    | ((with_reducible refine gate_callee (f := 8) rfl ?_); refine goesL_ (some 86) rfl rfl Try.func8 (by kernel_rfl) rfl #[.slice Ah gs.length ch, .slice Aw ws.length cw] rfl wT ?_; (with_reducible refine (laws_eqPacketS.calls k Ah ch gs Aw cw ws true _ ?side1 ?side2 ?side3 ?side4 E4.out).mono ?_); (case side1 => exact (C_of_S H17.out).2.2); (case side2 => exact (C_of_S H17.out).2.1); (case side3 => exact (Kd.N_reads' W17.out).2.2); (case side4 => exact (Kd.N_reads' W17.out).2.1); rintro e v18 ⟨rfl, hb⟩; refine ⟨_, rfl, ?_⟩; have G18 := Aside0.mk (Kd.S_below G17.out hb); have B18 := Aside0.mk (below_step B17.out hb); clear hb)
    | ((with_reducible refine gate_callee (f := 12) rfl ?_); refine goesL_ (some 95) rfl rfl Try.func12 (by kernel_rfl) rfl #[.slice Ag gs'.length cg, .int .i64 1] rfl (by first | (rw [← NL.out]; exact wT) | (rw [← NL.out]; rfl)) ?_; (with_reducible refine (laws_heldPacketS.calls k Ag cg gs' 1 z _ ?side1 ?side2 E8.out).mono ?_); (case side1 => exact (C_of_S G18.out).2.2); (case side2 => exact (NL.out ▸ (C_of_S G18.out).2.1)); rintro e v19 ⟨rfl, dd⟩; refine ⟨_, rfl, ?_⟩; have hb := below_of_drawn dd; have B19 := Aside0.mk (below_step B18.out hb); clear hb dd))
  go_ret
  exact ⟨by first | rfl | (simp; done) | (simp [*]; done), B19.out⟩
/-- what the law asks of the functions that it calls -/
def laws_FnExactFragment.B (k : Nat) (a0_0 : Int) (a0_1 : Int) (a0_2 : Bool) (a0_3 : Bool) (a0_4 : Int) (a0_5 : Int) (a0_6 : Int) (a0_7 : Int) (a0_8 : Int) (l9 l10 : List Int) (a1 : Int) : Prop := ∃ t : Int, laws_szPacket.f a0_0 a0_1 a0_2 a0_3 a0_4 a0_5 a0_6 a0_7 a0_8 l9 l10 1048576 = some t ∧ (t < 0 ∨ 0 ≤ t ∧ ∃ (ws gs gs' : List S29) (gc m z : Int) (r9 r10 : List Int), laws_toPacket.f k a0_0 a0_1 a0_2 a0_3 a0_4 a0_5 a0_6 a0_7 a0_8 l9 l10 = some (a0_0, a0_1, a0_2, a0_3, a0_4, a0_5, a0_6, a0_7, a0_8, l9, l10) ∧ spec_Fragment.f k a0_0 a0_1 a0_2 a0_3 a0_4 a0_5 a0_6 a0_7 a0_8 l9 l10 a1 = some (ws, gc) ∧ impl_Fragment.f k a0_0 a0_1 a0_2 a0_3 a0_4 a0_5 a0_6 a0_7 a0_8 l9 l10 a1 = some (gs, gc) ∧ laws_eqPacketS.f k gs ws = some true ∧ laws_eqPacket.f k a0_0 a0_1 a0_2 a0_3 a0_4 a0_5 a0_6 a0_7 a0_8 l9 l10 a0_0 a0_1 a0_2 a0_3 a0_4 a0_5 a0_6 a0_7 a0_8 l9 l10 = some true ∧ laws_markPacket.f k a0_0 a0_1 a0_2 a0_3 a0_4 a0_5 a0_6 a0_7 a0_8 l9 l10 1 = some (m, r9, r10) ∧ 0 ≤ m ∧ laws_markPacketS.f k gs 1 = some (z, gs') ∧ laws_heldPacketS.f k gs' 1 = some z ∧ 0 ≤ z)
/-- what the law answers, where all that holds -/
noncomputable def laws_FnExactFragment.f (k : Nat) (a0_0 : Int) (a0_1 : Int) (a0_2 : Bool) (a0_3 : Bool) (a0_4 : Int) (a0_5 : Int) (a0_6 : Int) (a0_7 : Int) (a0_8 : Int) (l9 l10 : List Int) (a1 : Int) : Option Bool := @ite (Option Bool) (laws_FnExactFragment.B k a0_0 a0_1 a0_2 a0_3 a0_4 a0_5 a0_6 a0_7 a0_8 l9 l10 a1) (Classical.propDecidable _) (some true) none
theorem laws_FnExactFragment.calls (k : Nat) (a0_0 : Int) (a0_1 : Int) (a0_2 : Bool) (a0_3 : Bool) (a0_4 : Int) (a0_5 : Int) (a0_6 : Int) (a0_7 : Int) (a0_8 : Int) (A9 : Option Addr) (c9 : Nat) (l9 : List Int) (A10 : Option Addr) (c10 : Nat) (l10 : List Int) (a1 : Int) (r : Bool) (w : World) (hr9 : Kd.C (Kd.int .u8) w A9 l9.length l9) (hc9 : l9.length ≤ c9) (hr10 : Kd.C (Kd.int .u8) w A10 l10.length l10) (hc10 : l10.length ≤ c10) (h : laws_FnExactFragment.f k a0_0 a0_1 a0_2 a0_3 a0_4 a0_5 a0_6 a0_7 a0_8 l9 l10 a1 = some r) :
    Calls Try.prog 3 #[.agg #[.int .i64 a0_0, .int .i64 a0_1, .bool a0_2, .bool a0_3, .int .i64 a0_4, .int .i64 a0_5, .int .i64 a0_6, .int .i64 a0_7, .int .i64 a0_8, .slice A9 l9.length c9, .slice A10 l10.length c10], .int .i64 a1] w fun e w' => e = .returned (.bool r) ∧ Below w.heap.size w w' := by
  unfold laws_FnExactFragment.f at h
  by_cases hb : laws_FnExactFragment.B k a0_0 a0_1 a0_2 a0_3 a0_4 a0_5 a0_6 a0_7 a0_8 l9 l10 a1
  · rw [if_pos hb] at h
    obtain rfl := Option.some.inj h
    obtain ⟨t, e0, hb | ⟨ht, ws, gs, gs', gc, m, z, r9, r10, e1, e2, e3, e4, e5, e6, hm, e7, e8, hz⟩⟩ := hb
    · exact laws_FnExactFragment.great a0_0 a0_1 a0_2 a0_3 a0_4 a0_5 a0_6 a0_7 a0_8 A9 c9 l9 A10 c10 l10 a1 t w hr9 hc9 hr10 hc10 e0 hb
    · exact laws_FnExactFragment.whole k a0_0 a0_1 a0_2 a0_3 a0_4 a0_5 a0_6 a0_7 a0_8 A9 c9 l9 A10 c10 l10 a1 t ws gs gs' gc m z r9 r10 w hr9 hc9 hr10 hc10 e0 ht e1 e2 e3 e4 e5 e6 hm e7 e8 hz
  · rw [if_neg hb] at h
    cases h


end Go.Proofs.Ytcapkpbjppenpaa.PFnExactFragment
