-- Written for this claim by a program of this session (wip/mkprint.py: the print, turned at a few places). Not trusted: Lean checks it.
import Derived.Test.YtkfbcmbemihbnaaPFnExactBoardLosex0
import Derived.Test.YtkfbcmbemihbnaaPFnExactBoardLosex4
namespace Go.Proofs.Ytkfbcmbemihbnaa.PFnExactBoardLose
open Go.RowKit Go.Proofs.YtkfbcmbemihbnaaW.PrintWords Go.Proofs.YtkfbcmbemihbnaaW.PrintLast Go.Proofs.YtkfbcmbemihbnaaW.PrintMore
attribute [local go_sem] max2_int min2_int max_two min_two max_three min_three max_four min_four   -- for this text's walks alone
set_option linter.unusedVariables false
set_option linter.unusedSimpArgs false

/-! ### impl_board_lose: function 109 -/
def impl_board_lose.l0 : Nat → Int → Int → Int → Int → Int → List (S85) → Option (Int × (List (S85)))
  | 0, _, _, _, _, _, _ => none
  | k + 1, x3, x4, x5, x190000, x190001, x190002 => if x5 ≥ 0 then (if 0 ≤ x5 then (if x5 < (x190002.length : Int) then (if ((rd_T85 x190002 x5).f3) = 1 then (if ((rd_T85 x190002 x5).f4 = true) then (if (rd_T85 x190002 x5).f4 = true then (impl_board_lose.l0 k x3 (wrap64 (x4 + 1)) (wrap64 (x5 - 1)) x190000 x190001 x190002) else (impl_board_lose.l0 k x3 x4 (wrap64 (x5 - 1)) x190000 x190001 x190002)) else (if ((rd_T85 x190002 x5).f5 = true) then (if (rd_T85 x190002 x5).f4 = true then (impl_board_lose.l0 k x3 (wrap64 (x4 + 1)) (wrap64 (x5 - 1)) x190000 x190001 x190002) else (impl_board_lose.l0 k x3 x4 (wrap64 (x5 - 1)) x190000 x190001 x190002)) else (if x4 ≥ 3 then ((some (x190002.set (x5 : Int).toNat (⟨(rd_T85 x190002 x5).f0, (rd_T85 x190002 x5).f1, (rd_T85 x190002 x5).f2, (rd_T85 x190002 x5).f3, (rd_T85 x190002 x5).f4, true⟩ : S85) : List (S85))).bind fun y190 => (if (rd_T85 y190 x5).f4 = true then (impl_board_lose.l0 k (wrap64 (x3 + (wrap64 (((rd_T85 y190 x5).f1) - ((rd_T85 y190 x5).f0))))) (wrap64 (x4 + 1)) (wrap64 (x5 - 1)) x190000 x190001 y190) else (impl_board_lose.l0 k (wrap64 (x3 + (wrap64 (((rd_T85 y190 x5).f1) - ((rd_T85 y190 x5).f0))))) x4 (wrap64 (x5 - 1)) x190000 x190001 y190))) else (if (rd_T85 x190002 x5).f4 = true then (impl_board_lose.l0 k x3 (wrap64 (x4 + 1)) (wrap64 (x5 - 1)) x190000 x190001 x190002) else (impl_board_lose.l0 k x3 x4 (wrap64 (x5 - 1)) x190000 x190001 x190002))))) else (if (rd_T85 x190002 x5).f4 = true then (impl_board_lose.l0 k x3 (wrap64 (x4 + 1)) (wrap64 (x5 - 1)) x190000 x190001 x190002) else (impl_board_lose.l0 k x3 x4 (wrap64 (x5 - 1)) x190000 x190001 x190002))) else (none)) else (none)) else (some (x3, x190002))
def impl_board_lose.f (k : Nat) (a0_0 : Int) (a0_1 : Int) (l0_2 : List (S85)) : Option (Int × (List (S85))) := impl_board_lose.l0 k 0 0 (wrap64 ((l0_2.length : Int) - 1)) a0_0 a0_1 l0_2
theorem impl_board_lose.mono_l : ∀ k, (∀ y0 y1 y2 y3 y4 y5, LeO (impl_board_lose.l0 k y0 y1 y2 y3 y4 y5) (impl_board_lose.l0 (k + 1) y0 y1 y2 y3 y4 y5))
  | 0 => fun _ _ _ _ _ _ r h => by simp [impl_board_lose.l0] at h
  | k + 1 => by
    have ih0 := impl_board_lose.mono_l k
    · intro y0 y1 y2 y3 y4 y5
      unfold impl_board_lose.l0
      repeat' first
      | (with_reducible exact ih0 _ _ _ _ _ _)
      | (with_reducible exact LeO.refl _)
      | (with_reducible exact LeO.none _)
      | (with_reducible refine LeO.ite ?_ ?_)
      | (with_reducible refine LeO.bind ?_ (fun _ => ?_))
      | exact ih0 _ _ _ _ _ _
      | exact LeO.none _
      | refine LeO.ite ?_ ?_
      | refine LeO.bind ?_ (fun _ => ?_)
theorem impl_board_lose.mono : ∀ a0 a1 a2 k, LeO (impl_board_lose.f k a0 a1 a2) (impl_board_lose.f (k + 1) a0 a1 a2) := by
 intro a0 a1 a2 k
 have ih0 := impl_board_lose.mono_l k
 unfold impl_board_lose.f
 repeat' first
     | (with_reducible exact ih0 _ _ _ _ _ _)
     | (with_reducible exact LeO.refl _)
     | (with_reducible exact LeO.none _)
     | (with_reducible refine LeO.ite ?_ ?_)
     | (with_reducible refine LeO.bind ?_ (fun _ => ?_))
     | exact ih0 _ _ _ _ _ _
     | exact LeO.none _
     | refine LeO.ite ?_ ?_
     | refine LeO.bind ?_ (fun _ => ?_)
set_option maxHeartbeats 60000000 in
set_option maxRecDepth 100000 in
theorem impl_board_lose.calls (k : Nat) (g : Nat) (a0_0 : Int) (a0_1 : Int) (P0_2_ : Nat → Prop) (u9000_ : Value) (l0_2 : List (S85)) (r1 : Int) (r2 : List (S85)) (w0 w : World) (hB : Below w0.heap.size w0 w) (ho0_2 : Kd.R k85 85 w w0.heap.size P0_2_ u9000_ l0_2) (hbk : w.heap[g]? = some (.cells #[.int .i64 a0_0, .int .i64 a0_1, u9000_] 126 (0, 0))) (hge : w0.heap.size ≤ g) (h : impl_board_lose.f k a0_0 a0_1 l0_2 = some (r1, r2)) :
 Calls Try.prog 109 #[.pointer (some ⟨g, 0, none⟩)] w fun e w' => e = .returned (.int .i64 r1) ∧ Kd.R k85 85 w' w0.heap.size (fun k_ => (P0_2_ k_ ∨ w.heap.size ≤ k_)) u9000_ r2 ∧ Below w0.heap.size w0 w' ∧ Kept w w' (fun k_ => P0_2_ k_) := by
 have HO0_2 := Aside0.mk (show Kd.R k85 85 w w0.heap.size (fun k_ => (P0_2_ k_ ∨ w.heap.size ≤ k_)) u9000_ l0_2 from Kd.R_mono ho0_2 (fun k_ hk => (.inl hk)))
 have HK := Aside0.mk (Kept.refl w (fun k_ => P0_2_ k_))
 have BK189 := Aside0.mk hbk
 have GE189 := Aside0.mk hge
 clear hbk hge
 have HW0 := Aside0.mk hB.size
 have HB := Aside0.mk hB
 clear hB
 have H : (impl_board_lose.l0 k 0 0 (wrap64 ((l0_2.length : Int) - 1)) a0_0 a0_1 l0_2) = some (r1, r2) := h
 clear h
 have H' := Aside0.mk H
 clear H
 obtain ⟨⟨hcz1001_0, hcz1001_1, hcz1001_2⟩, hfz1001_0, hfz1001_1, hfz1001_2⟩ := cells3 BK189.out
 obtain ⟨Ao1002, co1002, eo1002⟩ := Kd.R_slice HO0_2.out
 subst eo1002
 go_enter Try.func109, Try.ntmps109
 go_wp2
 repeat (go_quiet (fail); try go_wp2)
 go_loopg [3, 4, 5] k (fun kq v3 v4 v5 w' => ∃ (x3_1 : Int) (x4_1 : Int) (x5_1 : Int) (x190002_1 : List (S85)), v3 = .int .i64 x3_1 ∧ v4 = .int .i64 x4_1 ∧ v5 = .int .i64 x5_1 ∧ Aside0 (impl_board_lose.l0 kq x3_1 x4_1 x5_1 a0_0 a0_1 x190002_1 = some (r1, r2)) ∧ Aside0 (kq ≤ k) ∧ Aside0 (Kd.R k85 85 w' w0.heap.size (fun k_ => (P0_2_ k_ ∨ w.heap.size ≤ k_)) (.slice Ao1002 l0_2.length co1002) x190002_1) ∧ Aside0 (w'.heap[g]? = some (.cells #[.int .i64 a0_0, .int .i64 a0_1, (.slice Ao1002 l0_2.length co1002)] 126 (0, 0))) ∧ Aside0 (Kept w w' (fun k_ => P0_2_ k_)) ∧ Aside0 (Below w0.heap.size w0 w'))
 case atStart => exact ⟨(0), (0), (wrap64 ((l0_2.length : Int) - 1)), (l0_2), (by first | rfl | (simp; done) | (simp [*]; done)), (by first | rfl | (simp; done) | (simp [*]; done)), (by first | rfl | (simp; done) | (simp [*]; done)), H', ⟨Nat.le_refl _⟩, ⟨Rh HO0_2⟩, ⟨Bh BK189⟩, ⟨by repeat (first | (with_reducible first | exact HK.out | apply Kept.alloc | apply Kept.drewN | apply Kept.drew | refine Kept.setCell ?_ (.inr GW189.out) _) | exact HK.out)⟩, ⟨wB⟩⟩
 case round => (
 clear H'
 try clear hcz1001_0 hcz1001_1 hcz1001_2 hfz1001_0 hfz1001_1 hfz1001_2
 obtain ⟨x3_1, x4_1, x5_1, x190002_1, rfl, rfl, rfl, HA, HK1, HO_190002, BK189, HK, HB⟩ := hrel
 have hl190002_1 := (Kd.R_reads' HO_190002.out).1
 rw [hl190002_1] at HO_190002
 (try simp only [hl190002_1])
 (try simp only [hl190002_1] at BK189)
 cases gk with
 | zero => exact absurd HA.out (by simp [impl_board_lose.l0])
 | succ k1 => {
 have H := HA.out
 clear HA
 simp only [impl_board_lose.l0] at H
 by_cases c1003 : x5_1 ≥ 0
 rw [if_pos c1003] at H
 have c1003b0 : decide (0 ≤ x5_1) = true := decide_eq_true c1003
 clear c1003
 by_cases c1004 : 0 ≤ x5_1
 rw [if_pos c1004] at H
 have c1004b0 : decide (0 ≤ x5_1) = true := decide_eq_true c1004
 clear c1004
 by_cases c1005 : x5_1 < (x190002_1.length : Int)
 rw [if_pos c1005] at H
 have c1005b0 : decide (x5_1 < (x190002_1.length : Int)) = true := decide_eq_true c1005
 (try (have c1005bh := c1005b0; simp only [hl190002_1] at c1005bh))
 clear c1005
 by_cases c1008 : ((rd_T85 x190002_1 x5_1).f3) = 1
 rw [if_pos c1008] at H
 have c1008b0 : (((rd_T85 x190002_1 x5_1).f3) == 1) = true := beq_iff_eq.mpr c1008
 have c1008b1 : (((rd_T85 x190002_1 x5_1).f3) != 1) = false := bne_eq_false_iff_eq.mpr c1008
 clear c1008
 obtain ⟨bq1010, hbq1010⟩ : ∃ b_ : Bool, b_ = ((rd_T85 x190002_1 x5_1).f4) := ⟨_, rfl⟩
 replace H : (if (bq1010 = true) then (if bq1010 = true then (impl_board_lose.l0 k1 x3_1 (wrap64 (x4_1 + 1)) (wrap64 (x5_1 - 1)) a0_0 a0_1 x190002_1) else (impl_board_lose.l0 k1 x3_1 x4_1 (wrap64 (x5_1 - 1)) a0_0 a0_1 x190002_1)) else (if ((rd_T85 x190002_1 x5_1).f5 = true) then (if bq1010 = true then (impl_board_lose.l0 k1 x3_1 (wrap64 (x4_1 + 1)) (wrap64 (x5_1 - 1)) a0_0 a0_1 x190002_1) else (impl_board_lose.l0 k1 x3_1 x4_1 (wrap64 (x5_1 - 1)) a0_0 a0_1 x190002_1)) else (if x4_1 ≥ 3 then ((some (x190002_1.set (x5_1 : Int).toNat (⟨(rd_T85 x190002_1 x5_1).f0, (rd_T85 x190002_1 x5_1).f1, (rd_T85 x190002_1 x5_1).f2, (rd_T85 x190002_1 x5_1).f3, bq1010, true⟩ : S85) : List (S85))).bind fun y190 => (if (rd_T85 y190 x5_1).f4 = true then (impl_board_lose.l0 k1 (wrap64 (x3_1 + (wrap64 (((rd_T85 y190 x5_1).f1) - ((rd_T85 y190 x5_1).f0))))) (wrap64 (x4_1 + 1)) (wrap64 (x5_1 - 1)) a0_0 a0_1 y190) else (impl_board_lose.l0 k1 (wrap64 (x3_1 + (wrap64 (((rd_T85 y190 x5_1).f1) - ((rd_T85 y190 x5_1).f0))))) x4_1 (wrap64 (x5_1 - 1)) a0_0 a0_1 y190))) else (if bq1010 = true then (impl_board_lose.l0 k1 x3_1 (wrap64 (x4_1 + 1)) (wrap64 (x5_1 - 1)) a0_0 a0_1 x190002_1) else (impl_board_lose.l0 k1 x3_1 x4_1 (wrap64 (x5_1 - 1)) a0_0 a0_1 x190002_1))))) = some (r1, r2) := by rw [← hbq1010] at H; exact H
 have Nbq1010 := Aside0.mk hbq1010
 clear hbq1010
 by_cases c1011 : (bq1010 = true)
 subst c1011
 have H1 : (if true = true then (impl_board_lose.l0 k1 x3_1 (wrap64 (x4_1 + 1)) (wrap64 (x5_1 - 1)) a0_0 a0_1 x190002_1) else (impl_board_lose.l0 k1 x3_1 x4_1 (wrap64 (x5_1 - 1)) a0_0 a0_1 x190002_1)) = some (r1, r2) := by rw [if_pos rfl] at H; exact H
 clear H
 have H := H1
 clear H1
 have H1 : (impl_board_lose.l0 k1 x3_1 (wrap64 (x4_1 + 1)) (wrap64 (x5_1 - 1)) a0_0 a0_1 x190002_1) = some (r1, r2) := by rw [if_pos rfl] at H; exact H
 clear H
 have H := H1
 clear H1
 have H' := Aside0.mk H
 clear H
 rotate_left
 replace c1011 := Bool.eq_false_iff.mpr c1011
 subst c1011
 have H1 : (if ((rd_T85 x190002_1 x5_1).f5 = true) then (if false = true then (impl_board_lose.l0 k1 x3_1 (wrap64 (x4_1 + 1)) (wrap64 (x5_1 - 1)) a0_0 a0_1 x190002_1) else (impl_board_lose.l0 k1 x3_1 x4_1 (wrap64 (x5_1 - 1)) a0_0 a0_1 x190002_1)) else (if x4_1 ≥ 3 then ((some (x190002_1.set (x5_1 : Int).toNat (⟨(rd_T85 x190002_1 x5_1).f0, (rd_T85 x190002_1 x5_1).f1, (rd_T85 x190002_1 x5_1).f2, (rd_T85 x190002_1 x5_1).f3, false, true⟩ : S85) : List (S85))).bind fun y190 => (if (rd_T85 y190 x5_1).f4 = true then (impl_board_lose.l0 k1 (wrap64 (x3_1 + (wrap64 (((rd_T85 y190 x5_1).f1) - ((rd_T85 y190 x5_1).f0))))) (wrap64 (x4_1 + 1)) (wrap64 (x5_1 - 1)) a0_0 a0_1 y190) else (impl_board_lose.l0 k1 (wrap64 (x3_1 + (wrap64 (((rd_T85 y190 x5_1).f1) - ((rd_T85 y190 x5_1).f0))))) x4_1 (wrap64 (x5_1 - 1)) a0_0 a0_1 y190))) else (if false = true then (impl_board_lose.l0 k1 x3_1 (wrap64 (x4_1 + 1)) (wrap64 (x5_1 - 1)) a0_0 a0_1 x190002_1) else (impl_board_lose.l0 k1 x3_1 x4_1 (wrap64 (x5_1 - 1)) a0_0 a0_1 x190002_1)))) = some (r1, r2) := by rw [if_neg (show ¬ (false = true) by decide)] at H; exact H
 clear H
 have H := H1
 clear H1
 obtain ⟨bq1014, hbq1014⟩ : ∃ b_ : Bool, b_ = ((rd_T85 x190002_1 x5_1).f5) := ⟨_, rfl⟩
 replace H : (if (bq1014 = true) then (if false = true then (impl_board_lose.l0 k1 x3_1 (wrap64 (x4_1 + 1)) (wrap64 (x5_1 - 1)) a0_0 a0_1 x190002_1) else (impl_board_lose.l0 k1 x3_1 x4_1 (wrap64 (x5_1 - 1)) a0_0 a0_1 x190002_1)) else (if x4_1 ≥ 3 then ((some (x190002_1.set (x5_1 : Int).toNat (⟨(rd_T85 x190002_1 x5_1).f0, (rd_T85 x190002_1 x5_1).f1, (rd_T85 x190002_1 x5_1).f2, (rd_T85 x190002_1 x5_1).f3, false, true⟩ : S85) : List (S85))).bind fun y190 => (if (rd_T85 y190 x5_1).f4 = true then (impl_board_lose.l0 k1 (wrap64 (x3_1 + (wrap64 (((rd_T85 y190 x5_1).f1) - ((rd_T85 y190 x5_1).f0))))) (wrap64 (x4_1 + 1)) (wrap64 (x5_1 - 1)) a0_0 a0_1 y190) else (impl_board_lose.l0 k1 (wrap64 (x3_1 + (wrap64 (((rd_T85 y190 x5_1).f1) - ((rd_T85 y190 x5_1).f0))))) x4_1 (wrap64 (x5_1 - 1)) a0_0 a0_1 y190))) else (if false = true then (impl_board_lose.l0 k1 x3_1 (wrap64 (x4_1 + 1)) (wrap64 (x5_1 - 1)) a0_0 a0_1 x190002_1) else (impl_board_lose.l0 k1 x3_1 x4_1 (wrap64 (x5_1 - 1)) a0_0 a0_1 x190002_1)))) = some (r1, r2) := by rw [← hbq1014] at H; exact H
 have Nbq1014 := Aside0.mk hbq1014
 clear hbq1014
 by_cases c1015 : (bq1014 = true)
 subst c1015
 have H1 : (if false = true then (impl_board_lose.l0 k1 x3_1 (wrap64 (x4_1 + 1)) (wrap64 (x5_1 - 1)) a0_0 a0_1 x190002_1) else (impl_board_lose.l0 k1 x3_1 x4_1 (wrap64 (x5_1 - 1)) a0_0 a0_1 x190002_1)) = some (r1, r2) := by rw [if_pos rfl] at H; exact H
 clear H
 have H := H1
 clear H1
 have H1 : (impl_board_lose.l0 k1 x3_1 x4_1 (wrap64 (x5_1 - 1)) a0_0 a0_1 x190002_1) = some (r1, r2) := by rw [if_neg (show ¬ (false = true) by decide)] at H; exact H
 clear H
 have H := H1
 clear H1
 have H' := Aside0.mk H
 clear H
 rotate_left
 replace c1015 := Bool.eq_false_iff.mpr c1015
 subst c1015
 have H1 : (if x4_1 ≥ 3 then ((some (x190002_1.set (x5_1 : Int).toNat (⟨(rd_T85 x190002_1 x5_1).f0, (rd_T85 x190002_1 x5_1).f1, (rd_T85 x190002_1 x5_1).f2, (rd_T85 x190002_1 x5_1).f3, false, true⟩ : S85) : List (S85))).bind fun y190 => (if (rd_T85 y190 x5_1).f4 = true then (impl_board_lose.l0 k1 (wrap64 (x3_1 + (wrap64 (((rd_T85 y190 x5_1).f1) - ((rd_T85 y190 x5_1).f0))))) (wrap64 (x4_1 + 1)) (wrap64 (x5_1 - 1)) a0_0 a0_1 y190) else (impl_board_lose.l0 k1 (wrap64 (x3_1 + (wrap64 (((rd_T85 y190 x5_1).f1) - ((rd_T85 y190 x5_1).f0))))) x4_1 (wrap64 (x5_1 - 1)) a0_0 a0_1 y190))) else (if false = true then (impl_board_lose.l0 k1 x3_1 (wrap64 (x4_1 + 1)) (wrap64 (x5_1 - 1)) a0_0 a0_1 x190002_1) else (impl_board_lose.l0 k1 x3_1 x4_1 (wrap64 (x5_1 - 1)) a0_0 a0_1 x190002_1))) = some (r1, r2) := by rw [if_neg (show ¬ (false = true) by decide)] at H; exact H
 clear H
 have H := H1
 clear H1
 by_cases c1017 : x4_1 ≥ 3
 rw [if_pos c1017] at H
 have c1017b0 : decide (3 ≤ x4_1) = true := decide_eq_true c1017
 clear c1017
 obtain ⟨y190, hy190⟩ : ∃ y_ : List (S85), y_ = (x190002_1.set (x5_1 : Int).toNat (⟨(rd_T85 x190002_1 x5_1).f0, (rd_T85 x190002_1 x5_1).f1, (rd_T85 x190002_1 x5_1).f2, (rd_T85 x190002_1 x5_1).f3, false, true⟩ : S85)) := ⟨_, rfl⟩
 replace H : (if (rd_T85 y190 x5_1).f4 = true then (impl_board_lose.l0 k1 (wrap64 (x3_1 + (wrap64 (((rd_T85 y190 x5_1).f1) - ((rd_T85 y190 x5_1).f0))))) (wrap64 (x4_1 + 1)) (wrap64 (x5_1 - 1)) a0_0 a0_1 y190) else (impl_board_lose.l0 k1 (wrap64 (x3_1 + (wrap64 (((rd_T85 y190 x5_1).f1) - ((rd_T85 y190 x5_1).f0))))) x4_1 (wrap64 (x5_1 - 1)) a0_0 a0_1 y190)) = some (r1, r2) := by first | (rw [hy190]; with_reducible exact H) | (have H2_ := (Option.bind_some _ _).symm.trans H; rw [hy190]; with_reducible exact H2_) | (have H2_ := (Option.bind_some _ _).symm.trans H; with_reducible exact H2_) | with_reducible exact H | (rw [hy190]; exact H) | exact H
 have Ny190 := Aside0.mk hy190
 clear hy190
 obtain ⟨bq1022, hbq1022⟩ : ∃ b_ : Bool, b_ = ((rd_T85 y190 x5_1).f4) := ⟨_, rfl⟩
 replace H : (if bq1022 = true then (impl_board_lose.l0 k1 (wrap64 (x3_1 + (wrap64 (((rd_T85 y190 x5_1).f1) - ((rd_T85 y190 x5_1).f0))))) (wrap64 (x4_1 + 1)) (wrap64 (x5_1 - 1)) a0_0 a0_1 y190) else (impl_board_lose.l0 k1 (wrap64 (x3_1 + (wrap64 (((rd_T85 y190 x5_1).f1) - ((rd_T85 y190 x5_1).f0))))) x4_1 (wrap64 (x5_1 - 1)) a0_0 a0_1 y190)) = some (r1, r2) := by rw [← hbq1022] at H; exact H
 have Nbq1022 := Aside0.mk hbq1022
 clear hbq1022
 by_cases c1023 : bq1022 = true
 subst c1023
 have H1 : (impl_board_lose.l0 k1 (wrap64 (x3_1 + (wrap64 (((rd_T85 y190 x5_1).f1) - ((rd_T85 y190 x5_1).f0))))) (wrap64 (x4_1 + 1)) (wrap64 (x5_1 - 1)) a0_0 a0_1 y190) = some (r1, r2) := by rw [if_pos rfl] at H; exact H
 clear H
 have H := H1
 clear H1
 have H' := Aside0.mk H
 clear H
 rotate_left
 replace c1023 := Bool.eq_false_iff.mpr c1023
 subst c1023
 have H1 : (impl_board_lose.l0 k1 (wrap64 (x3_1 + (wrap64 (((rd_T85 y190 x5_1).f1) - ((rd_T85 y190 x5_1).f0))))) x4_1 (wrap64 (x5_1 - 1)) a0_0 a0_1 y190) = some (r1, r2) := by rw [if_neg (show ¬ (false = true) by decide)] at H; exact H
 clear H
 have H := H1
 clear H1
 have H' := Aside0.mk H
 clear H
 rotate_left
 rw [if_neg c1017] at H
 have c1017b0 : decide (3 ≤ x4_1) = false := decide_eq_false c1017
 clear c1017
 have H1 : (impl_board_lose.l0 k1 x3_1 x4_1 (wrap64 (x5_1 - 1)) a0_0 a0_1 x190002_1) = some (r1, r2) := by rw [if_neg (show ¬ (false = true) by decide)] at H; exact H
 clear H
 have H := H1
 clear H1
 have H' := Aside0.mk H
 clear H
 rotate_left
 rw [if_neg c1008] at H
 have c1008b0 : (((rd_T85 x190002_1 x5_1).f3) == 1) = false := beq_eq_false_iff_ne.mpr c1008
 have c1008b1 : (((rd_T85 x190002_1 x5_1).f3) != 1) = true := bne_iff_ne.mpr c1008
 obtain ⟨bq1026, hbq1026⟩ : ∃ b_ : Bool, b_ = ((rd_T85 x190002_1 x5_1).f4) := ⟨_, rfl⟩
 replace H : (if bq1026 = true then (impl_board_lose.l0 k1 x3_1 (wrap64 (x4_1 + 1)) (wrap64 (x5_1 - 1)) a0_0 a0_1 x190002_1) else (impl_board_lose.l0 k1 x3_1 x4_1 (wrap64 (x5_1 - 1)) a0_0 a0_1 x190002_1)) = some (r1, r2) := by rw [← hbq1026] at H; exact H
 have Nbq1026 := Aside0.mk hbq1026
 clear hbq1026
 by_cases c1027 : bq1026 = true
 subst c1027
 have H1 : (impl_board_lose.l0 k1 x3_1 (wrap64 (x4_1 + 1)) (wrap64 (x5_1 - 1)) a0_0 a0_1 x190002_1) = some (r1, r2) := by rw [if_pos rfl] at H; exact H
 clear H
 have H := H1
 clear H1
 have H' := Aside0.mk H
 clear H
 rotate_left
 replace c1027 := Bool.eq_false_iff.mpr c1027
 subst c1027
 have H1 : (impl_board_lose.l0 k1 x3_1 x4_1 (wrap64 (x5_1 - 1)) a0_0 a0_1 x190002_1) = some (r1, r2) := by rw [if_neg (show ¬ (false = true) by decide)] at H; exact H
 clear H
 have H := H1
 clear H1
 have H' := Aside0.mk H
 clear H
 rotate_left
 rw [if_neg c1005] at H
 exact absurd H (by simp)
 rw [if_neg c1004] at H
 exact absurd H (by simp)
 rw [if_neg c1003] at H
 have c1003b0 : decide (0 ≤ x5_1) = false := decide_eq_false c1003
 clear c1003
 simp only [Option.some.injEq, Prod.mk.injEq] at H
 obtain ⟨rfl, rfl⟩ := H
 rotate_left
 iterate 7 (
 focus (
 obtain ⟨⟨hcz2001_0, hcz2001_1, hcz2001_2⟩, hfz2001_0, hfz2001_1, hfz2001_2⟩ := cells3 BK189.out
 have p1006 : 0 ≤ (x5_1 : Int) := of_decide_eq_true (by first | (with_reducible assumption) | assumption)
 have q1006 : (x5_1 : Int) < ((x190002_1.length : Int) : Int) := of_decide_eq_true (by first | (with_reducible assumption) | assumption)
 obtain ⟨go1006, co1006, eo1006, gb1006, gl1006, cl1006, HG1006⟩ := Kd.R_form HO_190002.out (by omega)
 (first | cases eo1006 | (injection eo1006 with ea_ en_ ec_; (first | subst ea_ | (injection ea_ with ea_; subst ea_)); subst ec_; clear en_))
 have GB1006 := Aside0.mk gb1006
 have GG1006 := Aside0.mk HG1006
 clear gb1006 gl1006 HG1006
 have HMgo1006 := Aside0.mk (show (P0_2_ go1006 ∨ w.heap.size ≤ go1006) from (HO_190002.out.1 _ rfl))
 obtain ⟨ce1006, hcl1006, hM1006, hcc1006, hfr1006⟩ := Kd.R_elem HO_190002.out z85 (x5_1 : Int) p1006 q1006
 obtain rfl := k85_openM hM1006
 have hx1006_0 : wr.cell? ⟨go1006, (x5_1 : Int).toNat * 6, none⟩ = some (.int .i64 ((rd_T85 x190002_1 x5_1).f0)) := hcc1006 0 _ rfl
 have hx1006_1 : wr.cell? ⟨go1006, (x5_1 : Int).toNat * 6 + 1, none⟩ = some (.int .i64 ((rd_T85 x190002_1 x5_1).f1)) := hcc1006 1 _ rfl
 have hx1006_2 : wr.cell? ⟨go1006, (x5_1 : Int).toNat * 6 + 2, none⟩ = some (.int .i64 ((rd_T85 x190002_1 x5_1).f2)) := hcc1006 2 _ rfl
 have hx1006_3 : wr.cell? ⟨go1006, (x5_1 : Int).toNat * 6 + 3, none⟩ = some (.int .i64 ((rd_T85 x190002_1 x5_1).f3)) := hcc1006 3 _ rfl
 have hx1006_4 : wr.cell? ⟨go1006, (x5_1 : Int).toNat * 6 + 4, none⟩ = some (.bool ((rd_T85 x190002_1 x5_1).f4)) := hcc1006 4 _ rfl
 have hx1006_5 : wr.cell? ⟨go1006, (x5_1 : Int).toNat * 6 + 5, none⟩ = some (.bool ((rd_T85 x190002_1 x5_1).f5)) := hcc1006 5 _ rfl
 have hf1006_0 : wr.frozen? ⟨go1006, (x5_1 : Int).toNat * 6, none⟩ = false := hfr1006 0
 have hf1006_1 : wr.frozen? ⟨go1006, (x5_1 : Int).toNat * 6 + 1, none⟩ = false := hfr1006 1
 have hf1006_2 : wr.frozen? ⟨go1006, (x5_1 : Int).toNat * 6 + 2, none⟩ = false := hfr1006 2
 have hf1006_3 : wr.frozen? ⟨go1006, (x5_1 : Int).toNat * 6 + 3, none⟩ = false := hfr1006 3
 have hf1006_4 : wr.frozen? ⟨go1006, (x5_1 : Int).toNat * 6 + 4, none⟩ = false := hfr1006 4
 have hf1006_5 : wr.frozen? ⟨go1006, (x5_1 : Int).toNat * 6 + 5, none⟩ = false := hfr1006 5
 clear hcl1006 hcc1006 hfr1006 hM1006
 )
 rotate_left
 )
 rotate_right 7
 iterate 5 (
 focus (
 (try rw [← Nbq1010.out] at hx1006_4)
 )
 rotate_left
 )
 rotate_right 5
 {
 (try rw [← Nbq1010.out] at hx1006_5)
 replace p1006 := eq_true p1006
 replace q1006 := eq_true q1006
 have p1007 : 0 ≤ (x5_1 : Int) := of_decide_eq_true (by first | (with_reducible assumption) | assumption)
 have q1007 : (x5_1 : Int) < ((x190002_1.length : Int) : Int) := of_decide_eq_true (by first | (with_reducible assumption) | assumption)
 obtain ⟨ce1007, hcl1007, hM1007, hcc1007, hfr1007⟩ := Kd.R_elem HO_190002.out z85 (x5_1 : Int) p1007 q1007
 obtain rfl := k85_openM hM1007
 have hx1007_0 : wr.cell? ⟨go1006, (x5_1 : Int).toNat * 6, none⟩ = some (.int .i64 ((rd_T85 x190002_1 x5_1).f0)) := hcc1007 0 _ rfl
 have hx1007_1 : wr.cell? ⟨go1006, (x5_1 : Int).toNat * 6 + 1, none⟩ = some (.int .i64 ((rd_T85 x190002_1 x5_1).f1)) := hcc1007 1 _ rfl
 have hx1007_2 : wr.cell? ⟨go1006, (x5_1 : Int).toNat * 6 + 2, none⟩ = some (.int .i64 ((rd_T85 x190002_1 x5_1).f2)) := hcc1007 2 _ rfl
 have hx1007_3 : wr.cell? ⟨go1006, (x5_1 : Int).toNat * 6 + 3, none⟩ = some (.int .i64 ((rd_T85 x190002_1 x5_1).f3)) := hcc1007 3 _ rfl
 have hx1007_4 : wr.cell? ⟨go1006, (x5_1 : Int).toNat * 6 + 4, none⟩ = some (.bool ((rd_T85 x190002_1 x5_1).f4)) := hcc1007 4 _ rfl
 have hx1007_5 : wr.cell? ⟨go1006, (x5_1 : Int).toNat * 6 + 5, none⟩ = some (.bool ((rd_T85 x190002_1 x5_1).f5)) := hcc1007 5 _ rfl
 have hf1007_0 : wr.frozen? ⟨go1006, (x5_1 : Int).toNat * 6, none⟩ = false := hfr1007 0
 have hf1007_1 : wr.frozen? ⟨go1006, (x5_1 : Int).toNat * 6 + 1, none⟩ = false := hfr1007 1
 have hf1007_2 : wr.frozen? ⟨go1006, (x5_1 : Int).toNat * 6 + 2, none⟩ = false := hfr1007 2
 have hf1007_3 : wr.frozen? ⟨go1006, (x5_1 : Int).toNat * 6 + 3, none⟩ = false := hfr1007 3
 have hf1007_4 : wr.frozen? ⟨go1006, (x5_1 : Int).toNat * 6 + 4, none⟩ = false := hfr1007 4
 have hf1007_5 : wr.frozen? ⟨go1006, (x5_1 : Int).toNat * 6 + 5, none⟩ = false := hfr1007 5
 clear hcl1007 hcc1007 hfr1007 hM1007
 (try rw [← Nbq1010.out] at hx1007_4)
 (try rw [← Nbq1010.out] at hx1007_5)
 replace p1007 := eq_true p1007
 replace q1007 := eq_true q1007
 have p1009 : 0 ≤ (x5_1 : Int) := of_decide_eq_true (by first | (with_reducible assumption) | assumption)
 have q1009 : (x5_1 : Int) < ((x190002_1.length : Int) : Int) := of_decide_eq_true (by first | (with_reducible assumption) | assumption)
 obtain ⟨ce1009, hcl1009, hM1009, hcc1009, hfr1009⟩ := Kd.R_elem HO_190002.out z85 (x5_1 : Int) p1009 q1009
 obtain rfl := k85_openM hM1009
 have hx1009_0 : wr.cell? ⟨go1006, (x5_1 : Int).toNat * 6, none⟩ = some (.int .i64 ((rd_T85 x190002_1 x5_1).f0)) := hcc1009 0 _ rfl
 have hx1009_1 : wr.cell? ⟨go1006, (x5_1 : Int).toNat * 6 + 1, none⟩ = some (.int .i64 ((rd_T85 x190002_1 x5_1).f1)) := hcc1009 1 _ rfl
 have hx1009_2 : wr.cell? ⟨go1006, (x5_1 : Int).toNat * 6 + 2, none⟩ = some (.int .i64 ((rd_T85 x190002_1 x5_1).f2)) := hcc1009 2 _ rfl
 have hx1009_3 : wr.cell? ⟨go1006, (x5_1 : Int).toNat * 6 + 3, none⟩ = some (.int .i64 ((rd_T85 x190002_1 x5_1).f3)) := hcc1009 3 _ rfl
 have hx1009_4 : wr.cell? ⟨go1006, (x5_1 : Int).toNat * 6 + 4, none⟩ = some (.bool ((rd_T85 x190002_1 x5_1).f4)) := hcc1009 4 _ rfl
 have hx1009_5 : wr.cell? ⟨go1006, (x5_1 : Int).toNat * 6 + 5, none⟩ = some (.bool ((rd_T85 x190002_1 x5_1).f5)) := hcc1009 5 _ rfl
 have hf1009_0 : wr.frozen? ⟨go1006, (x5_1 : Int).toNat * 6, none⟩ = false := hfr1009 0
 have hf1009_1 : wr.frozen? ⟨go1006, (x5_1 : Int).toNat * 6 + 1, none⟩ = false := hfr1009 1
 have hf1009_2 : wr.frozen? ⟨go1006, (x5_1 : Int).toNat * 6 + 2, none⟩ = false := hfr1009 2
 have hf1009_3 : wr.frozen? ⟨go1006, (x5_1 : Int).toNat * 6 + 3, none⟩ = false := hfr1009 3
 have hf1009_4 : wr.frozen? ⟨go1006, (x5_1 : Int).toNat * 6 + 4, none⟩ = false := hfr1009 4
 have hf1009_5 : wr.frozen? ⟨go1006, (x5_1 : Int).toNat * 6 + 5, none⟩ = false := hfr1009 5
 clear hcl1009 hcc1009 hfr1009 hM1009
 (try rw [← Nbq1010.out] at hx1009_4)
 (try rw [← Nbq1010.out] at hx1009_5)
 replace p1009 := eq_true p1009
 replace q1009 := eq_true q1009
 have p1012 : 0 ≤ (x5_1 : Int) := of_decide_eq_true (by first | (with_reducible assumption) | assumption)
 have q1012 : (x5_1 : Int) < ((x190002_1.length : Int) : Int) := of_decide_eq_true (by first | (with_reducible assumption) | assumption)
 obtain ⟨ce1012, hcl1012, hM1012, hcc1012, hfr1012⟩ := Kd.R_elem HO_190002.out z85 (x5_1 : Int) p1012 q1012
 obtain rfl := k85_openM hM1012
 have hx1012_0 : wr.cell? ⟨go1006, (x5_1 : Int).toNat * 6, none⟩ = some (.int .i64 ((rd_T85 x190002_1 x5_1).f0)) := hcc1012 0 _ rfl
 have hx1012_1 : wr.cell? ⟨go1006, (x5_1 : Int).toNat * 6 + 1, none⟩ = some (.int .i64 ((rd_T85 x190002_1 x5_1).f1)) := hcc1012 1 _ rfl
 have hx1012_2 : wr.cell? ⟨go1006, (x5_1 : Int).toNat * 6 + 2, none⟩ = some (.int .i64 ((rd_T85 x190002_1 x5_1).f2)) := hcc1012 2 _ rfl
 have hx1012_3 : wr.cell? ⟨go1006, (x5_1 : Int).toNat * 6 + 3, none⟩ = some (.int .i64 ((rd_T85 x190002_1 x5_1).f3)) := hcc1012 3 _ rfl
 have hx1012_4 : wr.cell? ⟨go1006, (x5_1 : Int).toNat * 6 + 4, none⟩ = some (.bool ((rd_T85 x190002_1 x5_1).f4)) := hcc1012 4 _ rfl
 have hx1012_5 : wr.cell? ⟨go1006, (x5_1 : Int).toNat * 6 + 5, none⟩ = some (.bool ((rd_T85 x190002_1 x5_1).f5)) := hcc1012 5 _ rfl
 have hf1012_0 : wr.frozen? ⟨go1006, (x5_1 : Int).toNat * 6, none⟩ = false := hfr1012 0
 have hf1012_1 : wr.frozen? ⟨go1006, (x5_1 : Int).toNat * 6 + 1, none⟩ = false := hfr1012 1
 have hf1012_2 : wr.frozen? ⟨go1006, (x5_1 : Int).toNat * 6 + 2, none⟩ = false := hfr1012 2
 have hf1012_3 : wr.frozen? ⟨go1006, (x5_1 : Int).toNat * 6 + 3, none⟩ = false := hfr1012 3
 have hf1012_4 : wr.frozen? ⟨go1006, (x5_1 : Int).toNat * 6 + 4, none⟩ = false := hfr1012 4
 have hf1012_5 : wr.frozen? ⟨go1006, (x5_1 : Int).toNat * 6 + 5, none⟩ = false := hfr1012 5
 clear hcl1012 hcc1012 hfr1012 hM1012
 (try rw [← Nbq1010.out] at hx1012_4)
 (try rw [← Nbq1010.out] at hx1012_5)
 replace p1012 := eq_true p1012
 replace q1012 := eq_true q1012
 go_wp2
 repeat (go_quiet (fail); try go_wp2)
 (try simp only [← hl190002_1])
 go_roundg k1
 case measure => have := HK1.out; omega
 case rel => exact ⟨(x3_1), (wrap64 (x4_1 + 1)), (wrap64 (x5_1 - 1)), (x190002_1), (by first | rfl | (simp; done) | (simp [*]; done)), (by first | rfl | (simp; done) | (simp [*]; done)), (by first | rfl | (simp; done) | (simp [*]; done)), H', ⟨by have := HK1.out; omega⟩, ⟨by (try simp only [hl190002_1]); (with_reducible repeat (first | apply Kd.R_alloc | apply Kd.R_drewN | apply Kd.R_drew)); exact HO_190002.out⟩, ⟨by (try simp only [hl190002_1]); (with_reducible repeat (first | refine blk_drewN ?_ _ | refine blk_drew ?_ | refine blk_alloc ?_ _)); exact BK189.out⟩, ⟨by repeat (first | (with_reducible first | exact HK.out | apply Kept.alloc | apply Kept.drewN | apply Kept.drew | refine Kept.setCell ?_ (.inr GW189.out) _) | exact HK.out)⟩, ⟨wB⟩⟩
 }
 iterate 4 (
 focus (
 (try rw [← Nbq1014.out] at hx1006_4)
 )
 rotate_left
 )
 rotate_right 4
 {
 (try rw [← Nbq1010.out] at hx1006_5)
 (try rw [← Nbq1014.out] at hx1006_5)
 replace p1006 := eq_true p1006
 replace q1006 := eq_true q1006
 have p1007 : 0 ≤ (x5_1 : Int) := of_decide_eq_true (by first | (with_reducible assumption) | assumption)
 have q1007 : (x5_1 : Int) < ((x190002_1.length : Int) : Int) := of_decide_eq_true (by first | (with_reducible assumption) | assumption)
 obtain ⟨ce1007, hcl1007, hM1007, hcc1007, hfr1007⟩ := Kd.R_elem HO_190002.out z85 (x5_1 : Int) p1007 q1007
 obtain rfl := k85_openM hM1007
 have hx1007_0 : wr.cell? ⟨go1006, (x5_1 : Int).toNat * 6, none⟩ = some (.int .i64 ((rd_T85 x190002_1 x5_1).f0)) := hcc1007 0 _ rfl
 have hx1007_1 : wr.cell? ⟨go1006, (x5_1 : Int).toNat * 6 + 1, none⟩ = some (.int .i64 ((rd_T85 x190002_1 x5_1).f1)) := hcc1007 1 _ rfl
 have hx1007_2 : wr.cell? ⟨go1006, (x5_1 : Int).toNat * 6 + 2, none⟩ = some (.int .i64 ((rd_T85 x190002_1 x5_1).f2)) := hcc1007 2 _ rfl
 have hx1007_3 : wr.cell? ⟨go1006, (x5_1 : Int).toNat * 6 + 3, none⟩ = some (.int .i64 ((rd_T85 x190002_1 x5_1).f3)) := hcc1007 3 _ rfl
 have hx1007_4 : wr.cell? ⟨go1006, (x5_1 : Int).toNat * 6 + 4, none⟩ = some (.bool ((rd_T85 x190002_1 x5_1).f4)) := hcc1007 4 _ rfl
 have hx1007_5 : wr.cell? ⟨go1006, (x5_1 : Int).toNat * 6 + 5, none⟩ = some (.bool ((rd_T85 x190002_1 x5_1).f5)) := hcc1007 5 _ rfl
 have hf1007_0 : wr.frozen? ⟨go1006, (x5_1 : Int).toNat * 6, none⟩ = false := hfr1007 0
 have hf1007_1 : wr.frozen? ⟨go1006, (x5_1 : Int).toNat * 6 + 1, none⟩ = false := hfr1007 1
 have hf1007_2 : wr.frozen? ⟨go1006, (x5_1 : Int).toNat * 6 + 2, none⟩ = false := hfr1007 2
 have hf1007_3 : wr.frozen? ⟨go1006, (x5_1 : Int).toNat * 6 + 3, none⟩ = false := hfr1007 3
 have hf1007_4 : wr.frozen? ⟨go1006, (x5_1 : Int).toNat * 6 + 4, none⟩ = false := hfr1007 4
 have hf1007_5 : wr.frozen? ⟨go1006, (x5_1 : Int).toNat * 6 + 5, none⟩ = false := hfr1007 5
 clear hcl1007 hcc1007 hfr1007 hM1007
 (try rw [← Nbq1010.out] at hx1007_4)
 (try rw [← Nbq1014.out] at hx1007_4)
 (try rw [← Nbq1010.out] at hx1007_5)
 (try rw [← Nbq1014.out] at hx1007_5)
 replace p1007 := eq_true p1007
 replace q1007 := eq_true q1007
 have p1009 : 0 ≤ (x5_1 : Int) := of_decide_eq_true (by first | (with_reducible assumption) | assumption)
 have q1009 : (x5_1 : Int) < ((x190002_1.length : Int) : Int) := of_decide_eq_true (by first | (with_reducible assumption) | assumption)
 obtain ⟨ce1009, hcl1009, hM1009, hcc1009, hfr1009⟩ := Kd.R_elem HO_190002.out z85 (x5_1 : Int) p1009 q1009
 obtain rfl := k85_openM hM1009
 have hx1009_0 : wr.cell? ⟨go1006, (x5_1 : Int).toNat * 6, none⟩ = some (.int .i64 ((rd_T85 x190002_1 x5_1).f0)) := hcc1009 0 _ rfl
 have hx1009_1 : wr.cell? ⟨go1006, (x5_1 : Int).toNat * 6 + 1, none⟩ = some (.int .i64 ((rd_T85 x190002_1 x5_1).f1)) := hcc1009 1 _ rfl
 have hx1009_2 : wr.cell? ⟨go1006, (x5_1 : Int).toNat * 6 + 2, none⟩ = some (.int .i64 ((rd_T85 x190002_1 x5_1).f2)) := hcc1009 2 _ rfl
 have hx1009_3 : wr.cell? ⟨go1006, (x5_1 : Int).toNat * 6 + 3, none⟩ = some (.int .i64 ((rd_T85 x190002_1 x5_1).f3)) := hcc1009 3 _ rfl
 have hx1009_4 : wr.cell? ⟨go1006, (x5_1 : Int).toNat * 6 + 4, none⟩ = some (.bool ((rd_T85 x190002_1 x5_1).f4)) := hcc1009 4 _ rfl
 have hx1009_5 : wr.cell? ⟨go1006, (x5_1 : Int).toNat * 6 + 5, none⟩ = some (.bool ((rd_T85 x190002_1 x5_1).f5)) := hcc1009 5 _ rfl
 have hf1009_0 : wr.frozen? ⟨go1006, (x5_1 : Int).toNat * 6, none⟩ = false := hfr1009 0
 have hf1009_1 : wr.frozen? ⟨go1006, (x5_1 : Int).toNat * 6 + 1, none⟩ = false := hfr1009 1
 have hf1009_2 : wr.frozen? ⟨go1006, (x5_1 : Int).toNat * 6 + 2, none⟩ = false := hfr1009 2
 have hf1009_3 : wr.frozen? ⟨go1006, (x5_1 : Int).toNat * 6 + 3, none⟩ = false := hfr1009 3
 have hf1009_4 : wr.frozen? ⟨go1006, (x5_1 : Int).toNat * 6 + 4, none⟩ = false := hfr1009 4
 have hf1009_5 : wr.frozen? ⟨go1006, (x5_1 : Int).toNat * 6 + 5, none⟩ = false := hfr1009 5
 clear hcl1009 hcc1009 hfr1009 hM1009
 (try rw [← Nbq1010.out] at hx1009_4)
 (try rw [← Nbq1014.out] at hx1009_4)
 (try rw [← Nbq1010.out] at hx1009_5)
 (try rw [← Nbq1014.out] at hx1009_5)
 replace p1009 := eq_true p1009
 replace q1009 := eq_true q1009
 have p1013 : 0 ≤ (x5_1 : Int) := of_decide_eq_true (by first | (with_reducible assumption) | assumption)
 have q1013 : (x5_1 : Int) < ((x190002_1.length : Int) : Int) := of_decide_eq_true (by first | (with_reducible assumption) | assumption)
 obtain ⟨ce1013, hcl1013, hM1013, hcc1013, hfr1013⟩ := Kd.R_elem HO_190002.out z85 (x5_1 : Int) p1013 q1013
 obtain rfl := k85_openM hM1013
 have hx1013_0 : wr.cell? ⟨go1006, (x5_1 : Int).toNat * 6, none⟩ = some (.int .i64 ((rd_T85 x190002_1 x5_1).f0)) := hcc1013 0 _ rfl
 have hx1013_1 : wr.cell? ⟨go1006, (x5_1 : Int).toNat * 6 + 1, none⟩ = some (.int .i64 ((rd_T85 x190002_1 x5_1).f1)) := hcc1013 1 _ rfl
 have hx1013_2 : wr.cell? ⟨go1006, (x5_1 : Int).toNat * 6 + 2, none⟩ = some (.int .i64 ((rd_T85 x190002_1 x5_1).f2)) := hcc1013 2 _ rfl
 have hx1013_3 : wr.cell? ⟨go1006, (x5_1 : Int).toNat * 6 + 3, none⟩ = some (.int .i64 ((rd_T85 x190002_1 x5_1).f3)) := hcc1013 3 _ rfl
 have hx1013_4 : wr.cell? ⟨go1006, (x5_1 : Int).toNat * 6 + 4, none⟩ = some (.bool ((rd_T85 x190002_1 x5_1).f4)) := hcc1013 4 _ rfl
 have hx1013_5 : wr.cell? ⟨go1006, (x5_1 : Int).toNat * 6 + 5, none⟩ = some (.bool ((rd_T85 x190002_1 x5_1).f5)) := hcc1013 5 _ rfl
 have hf1013_0 : wr.frozen? ⟨go1006, (x5_1 : Int).toNat * 6, none⟩ = false := hfr1013 0
 have hf1013_1 : wr.frozen? ⟨go1006, (x5_1 : Int).toNat * 6 + 1, none⟩ = false := hfr1013 1
 have hf1013_2 : wr.frozen? ⟨go1006, (x5_1 : Int).toNat * 6 + 2, none⟩ = false := hfr1013 2
 have hf1013_3 : wr.frozen? ⟨go1006, (x5_1 : Int).toNat * 6 + 3, none⟩ = false := hfr1013 3
 have hf1013_4 : wr.frozen? ⟨go1006, (x5_1 : Int).toNat * 6 + 4, none⟩ = false := hfr1013 4
 have hf1013_5 : wr.frozen? ⟨go1006, (x5_1 : Int).toNat * 6 + 5, none⟩ = false := hfr1013 5
 clear hcl1013 hcc1013 hfr1013 hM1013
 (try rw [← Nbq1010.out] at hx1013_4)
 (try rw [← Nbq1014.out] at hx1013_4)
 (try rw [← Nbq1010.out] at hx1013_5)
 (try rw [← Nbq1014.out] at hx1013_5)
 replace p1013 := eq_true p1013
 replace q1013 := eq_true q1013
 have p1016 : 0 ≤ (x5_1 : Int) := of_decide_eq_true (by first | (with_reducible assumption) | assumption)
 have q1016 : (x5_1 : Int) < ((x190002_1.length : Int) : Int) := of_decide_eq_true (by first | (with_reducible assumption) | assumption)
 obtain ⟨ce1016, hcl1016, hM1016, hcc1016, hfr1016⟩ := Kd.R_elem HO_190002.out z85 (x5_1 : Int) p1016 q1016
 obtain rfl := k85_openM hM1016
 have hx1016_0 : wr.cell? ⟨go1006, (x5_1 : Int).toNat * 6, none⟩ = some (.int .i64 ((rd_T85 x190002_1 x5_1).f0)) := hcc1016 0 _ rfl
 have hx1016_1 : wr.cell? ⟨go1006, (x5_1 : Int).toNat * 6 + 1, none⟩ = some (.int .i64 ((rd_T85 x190002_1 x5_1).f1)) := hcc1016 1 _ rfl
 have hx1016_2 : wr.cell? ⟨go1006, (x5_1 : Int).toNat * 6 + 2, none⟩ = some (.int .i64 ((rd_T85 x190002_1 x5_1).f2)) := hcc1016 2 _ rfl
 have hx1016_3 : wr.cell? ⟨go1006, (x5_1 : Int).toNat * 6 + 3, none⟩ = some (.int .i64 ((rd_T85 x190002_1 x5_1).f3)) := hcc1016 3 _ rfl
 have hx1016_4 : wr.cell? ⟨go1006, (x5_1 : Int).toNat * 6 + 4, none⟩ = some (.bool ((rd_T85 x190002_1 x5_1).f4)) := hcc1016 4 _ rfl
 have hx1016_5 : wr.cell? ⟨go1006, (x5_1 : Int).toNat * 6 + 5, none⟩ = some (.bool ((rd_T85 x190002_1 x5_1).f5)) := hcc1016 5 _ rfl
 have hf1016_0 : wr.frozen? ⟨go1006, (x5_1 : Int).toNat * 6, none⟩ = false := hfr1016 0
 have hf1016_1 : wr.frozen? ⟨go1006, (x5_1 : Int).toNat * 6 + 1, none⟩ = false := hfr1016 1
 have hf1016_2 : wr.frozen? ⟨go1006, (x5_1 : Int).toNat * 6 + 2, none⟩ = false := hfr1016 2
 have hf1016_3 : wr.frozen? ⟨go1006, (x5_1 : Int).toNat * 6 + 3, none⟩ = false := hfr1016 3
 have hf1016_4 : wr.frozen? ⟨go1006, (x5_1 : Int).toNat * 6 + 4, none⟩ = false := hfr1016 4
 have hf1016_5 : wr.frozen? ⟨go1006, (x5_1 : Int).toNat * 6 + 5, none⟩ = false := hfr1016 5
 clear hcl1016 hcc1016 hfr1016 hM1016
 (try rw [← Nbq1010.out] at hx1016_4)
 (try rw [← Nbq1014.out] at hx1016_4)
 (try rw [← Nbq1010.out] at hx1016_5)
 (try rw [← Nbq1014.out] at hx1016_5)
 replace p1016 := eq_true p1016
 replace q1016 := eq_true q1016
 go_wp2
 repeat (go_quiet (fail); try go_wp2)
 (try simp only [← hl190002_1])
 go_roundg k1
 case measure => have := HK1.out; omega
 case rel => exact ⟨(x3_1), (x4_1), (wrap64 (x5_1 - 1)), (x190002_1), (by first | rfl | (simp; done) | (simp [*]; done)), (by first | rfl | (simp; done) | (simp [*]; done)), (by first | rfl | (simp; done) | (simp [*]; done)), H', ⟨by have := HK1.out; omega⟩, ⟨by (try simp only [hl190002_1]); (with_reducible repeat (first | apply Kd.R_alloc | apply Kd.R_drewN | apply Kd.R_drew)); exact HO_190002.out⟩, ⟨by (try simp only [hl190002_1]); (with_reducible repeat (first | refine blk_drewN ?_ _ | refine blk_drew ?_ | refine blk_alloc ?_ _)); exact BK189.out⟩, ⟨by repeat (first | (with_reducible first | exact HK.out | apply Kept.alloc | apply Kept.drewN | apply Kept.drew | refine Kept.setCell ?_ (.inr GW189.out) _) | exact HK.out)⟩, ⟨wB⟩⟩
 }
 iterate 2 (
 focus (
 (try rw [← Nbq1022.out] at hx1006_4)
 (try rw [← Nbq1010.out] at hx1006_5)
 (try rw [← Nbq1014.out] at hx1006_5)
 (try rw [← Nbq1022.out] at hx1006_5)
 replace p1006 := eq_true p1006
 replace q1006 := eq_true q1006
 have p1007 : 0 ≤ (x5_1 : Int) := of_decide_eq_true (by first | (with_reducible assumption) | assumption)
 have q1007 : (x5_1 : Int) < ((x190002_1.length : Int) : Int) := of_decide_eq_true (by first | (with_reducible assumption) | assumption)
 obtain ⟨ce1007, hcl1007, hM1007, hcc1007, hfr1007⟩ := Kd.R_elem HO_190002.out z85 (x5_1 : Int) p1007 q1007
 obtain rfl := k85_openM hM1007
 have hx1007_0 : wr.cell? ⟨go1006, (x5_1 : Int).toNat * 6, none⟩ = some (.int .i64 ((rd_T85 x190002_1 x5_1).f0)) := hcc1007 0 _ rfl
 have hx1007_1 : wr.cell? ⟨go1006, (x5_1 : Int).toNat * 6 + 1, none⟩ = some (.int .i64 ((rd_T85 x190002_1 x5_1).f1)) := hcc1007 1 _ rfl
 have hx1007_2 : wr.cell? ⟨go1006, (x5_1 : Int).toNat * 6 + 2, none⟩ = some (.int .i64 ((rd_T85 x190002_1 x5_1).f2)) := hcc1007 2 _ rfl
 have hx1007_3 : wr.cell? ⟨go1006, (x5_1 : Int).toNat * 6 + 3, none⟩ = some (.int .i64 ((rd_T85 x190002_1 x5_1).f3)) := hcc1007 3 _ rfl
 have hx1007_4 : wr.cell? ⟨go1006, (x5_1 : Int).toNat * 6 + 4, none⟩ = some (.bool ((rd_T85 x190002_1 x5_1).f4)) := hcc1007 4 _ rfl
 have hx1007_5 : wr.cell? ⟨go1006, (x5_1 : Int).toNat * 6 + 5, none⟩ = some (.bool ((rd_T85 x190002_1 x5_1).f5)) := hcc1007 5 _ rfl
 have hf1007_0 : wr.frozen? ⟨go1006, (x5_1 : Int).toNat * 6, none⟩ = false := hfr1007 0
 have hf1007_1 : wr.frozen? ⟨go1006, (x5_1 : Int).toNat * 6 + 1, none⟩ = false := hfr1007 1
 have hf1007_2 : wr.frozen? ⟨go1006, (x5_1 : Int).toNat * 6 + 2, none⟩ = false := hfr1007 2
 have hf1007_3 : wr.frozen? ⟨go1006, (x5_1 : Int).toNat * 6 + 3, none⟩ = false := hfr1007 3
 have hf1007_4 : wr.frozen? ⟨go1006, (x5_1 : Int).toNat * 6 + 4, none⟩ = false := hfr1007 4
 have hf1007_5 : wr.frozen? ⟨go1006, (x5_1 : Int).toNat * 6 + 5, none⟩ = false := hfr1007 5
 clear hcl1007 hcc1007 hfr1007 hM1007
 (try rw [← Nbq1010.out] at hx1007_4)
 (try rw [← Nbq1014.out] at hx1007_4)
 (try rw [← Nbq1022.out] at hx1007_4)
 (try rw [← Nbq1010.out] at hx1007_5)
 (try rw [← Nbq1014.out] at hx1007_5)
 (try rw [← Nbq1022.out] at hx1007_5)
 replace p1007 := eq_true p1007
 replace q1007 := eq_true q1007
 have p1009 : 0 ≤ (x5_1 : Int) := of_decide_eq_true (by first | (with_reducible assumption) | assumption)
 have q1009 : (x5_1 : Int) < ((x190002_1.length : Int) : Int) := of_decide_eq_true (by first | (with_reducible assumption) | assumption)
 obtain ⟨ce1009, hcl1009, hM1009, hcc1009, hfr1009⟩ := Kd.R_elem HO_190002.out z85 (x5_1 : Int) p1009 q1009
 obtain rfl := k85_openM hM1009
 have hx1009_0 : wr.cell? ⟨go1006, (x5_1 : Int).toNat * 6, none⟩ = some (.int .i64 ((rd_T85 x190002_1 x5_1).f0)) := hcc1009 0 _ rfl
 have hx1009_1 : wr.cell? ⟨go1006, (x5_1 : Int).toNat * 6 + 1, none⟩ = some (.int .i64 ((rd_T85 x190002_1 x5_1).f1)) := hcc1009 1 _ rfl
 have hx1009_2 : wr.cell? ⟨go1006, (x5_1 : Int).toNat * 6 + 2, none⟩ = some (.int .i64 ((rd_T85 x190002_1 x5_1).f2)) := hcc1009 2 _ rfl
 have hx1009_3 : wr.cell? ⟨go1006, (x5_1 : Int).toNat * 6 + 3, none⟩ = some (.int .i64 ((rd_T85 x190002_1 x5_1).f3)) := hcc1009 3 _ rfl
 have hx1009_4 : wr.cell? ⟨go1006, (x5_1 : Int).toNat * 6 + 4, none⟩ = some (.bool ((rd_T85 x190002_1 x5_1).f4)) := hcc1009 4 _ rfl
 have hx1009_5 : wr.cell? ⟨go1006, (x5_1 : Int).toNat * 6 + 5, none⟩ = some (.bool ((rd_T85 x190002_1 x5_1).f5)) := hcc1009 5 _ rfl
 have hf1009_0 : wr.frozen? ⟨go1006, (x5_1 : Int).toNat * 6, none⟩ = false := hfr1009 0
 have hf1009_1 : wr.frozen? ⟨go1006, (x5_1 : Int).toNat * 6 + 1, none⟩ = false := hfr1009 1
 have hf1009_2 : wr.frozen? ⟨go1006, (x5_1 : Int).toNat * 6 + 2, none⟩ = false := hfr1009 2
 have hf1009_3 : wr.frozen? ⟨go1006, (x5_1 : Int).toNat * 6 + 3, none⟩ = false := hfr1009 3
 have hf1009_4 : wr.frozen? ⟨go1006, (x5_1 : Int).toNat * 6 + 4, none⟩ = false := hfr1009 4
 have hf1009_5 : wr.frozen? ⟨go1006, (x5_1 : Int).toNat * 6 + 5, none⟩ = false := hfr1009 5
 clear hcl1009 hcc1009 hfr1009 hM1009
 (try rw [← Nbq1010.out] at hx1009_4)
 (try rw [← Nbq1014.out] at hx1009_4)
 (try rw [← Nbq1022.out] at hx1009_4)
 (try rw [← Nbq1010.out] at hx1009_5)
 (try rw [← Nbq1014.out] at hx1009_5)
 (try rw [← Nbq1022.out] at hx1009_5)
 replace p1009 := eq_true p1009
 replace q1009 := eq_true q1009
 have p1013 : 0 ≤ (x5_1 : Int) := of_decide_eq_true (by first | (with_reducible assumption) | assumption)
 have q1013 : (x5_1 : Int) < ((x190002_1.length : Int) : Int) := of_decide_eq_true (by first | (with_reducible assumption) | assumption)
 obtain ⟨ce1013, hcl1013, hM1013, hcc1013, hfr1013⟩ := Kd.R_elem HO_190002.out z85 (x5_1 : Int) p1013 q1013
 obtain rfl := k85_openM hM1013
 have hx1013_0 : wr.cell? ⟨go1006, (x5_1 : Int).toNat * 6, none⟩ = some (.int .i64 ((rd_T85 x190002_1 x5_1).f0)) := hcc1013 0 _ rfl
 have hx1013_1 : wr.cell? ⟨go1006, (x5_1 : Int).toNat * 6 + 1, none⟩ = some (.int .i64 ((rd_T85 x190002_1 x5_1).f1)) := hcc1013 1 _ rfl
 have hx1013_2 : wr.cell? ⟨go1006, (x5_1 : Int).toNat * 6 + 2, none⟩ = some (.int .i64 ((rd_T85 x190002_1 x5_1).f2)) := hcc1013 2 _ rfl
 have hx1013_3 : wr.cell? ⟨go1006, (x5_1 : Int).toNat * 6 + 3, none⟩ = some (.int .i64 ((rd_T85 x190002_1 x5_1).f3)) := hcc1013 3 _ rfl
 have hx1013_4 : wr.cell? ⟨go1006, (x5_1 : Int).toNat * 6 + 4, none⟩ = some (.bool ((rd_T85 x190002_1 x5_1).f4)) := hcc1013 4 _ rfl
 have hx1013_5 : wr.cell? ⟨go1006, (x5_1 : Int).toNat * 6 + 5, none⟩ = some (.bool ((rd_T85 x190002_1 x5_1).f5)) := hcc1013 5 _ rfl
 have hf1013_0 : wr.frozen? ⟨go1006, (x5_1 : Int).toNat * 6, none⟩ = false := hfr1013 0
 have hf1013_1 : wr.frozen? ⟨go1006, (x5_1 : Int).toNat * 6 + 1, none⟩ = false := hfr1013 1
 have hf1013_2 : wr.frozen? ⟨go1006, (x5_1 : Int).toNat * 6 + 2, none⟩ = false := hfr1013 2
 have hf1013_3 : wr.frozen? ⟨go1006, (x5_1 : Int).toNat * 6 + 3, none⟩ = false := hfr1013 3
 have hf1013_4 : wr.frozen? ⟨go1006, (x5_1 : Int).toNat * 6 + 4, none⟩ = false := hfr1013 4
 have hf1013_5 : wr.frozen? ⟨go1006, (x5_1 : Int).toNat * 6 + 5, none⟩ = false := hfr1013 5
 clear hcl1013 hcc1013 hfr1013 hM1013
 (try rw [← Nbq1010.out] at hx1013_4)
 (try rw [← Nbq1014.out] at hx1013_4)
 (try rw [← Nbq1022.out] at hx1013_4)
 (try rw [← Nbq1010.out] at hx1013_5)
 (try rw [← Nbq1014.out] at hx1013_5)
 (try rw [← Nbq1022.out] at hx1013_5)
 replace p1013 := eq_true p1013
 replace q1013 := eq_true q1013
 have p1018 : 0 ≤ (x5_1 : Int) := of_decide_eq_true (by first | (with_reducible assumption) | assumption)
 have q1018 : (x5_1 : Int) < ((x190002_1.length : Int) : Int) := of_decide_eq_true (by first | (with_reducible assumption) | assumption)
 obtain ⟨ce1018, hcl1018, hM1018, hcc1018, hfr1018⟩ := Kd.R_elem HO_190002.out z85 (x5_1 : Int) p1018 q1018
 obtain rfl := k85_openM hM1018
 have hx1018_0 : wr.cell? ⟨go1006, (x5_1 : Int).toNat * 6, none⟩ = some (.int .i64 ((rd_T85 x190002_1 x5_1).f0)) := hcc1018 0 _ rfl
 have hx1018_1 : wr.cell? ⟨go1006, (x5_1 : Int).toNat * 6 + 1, none⟩ = some (.int .i64 ((rd_T85 x190002_1 x5_1).f1)) := hcc1018 1 _ rfl
 have hx1018_2 : wr.cell? ⟨go1006, (x5_1 : Int).toNat * 6 + 2, none⟩ = some (.int .i64 ((rd_T85 x190002_1 x5_1).f2)) := hcc1018 2 _ rfl
 have hx1018_3 : wr.cell? ⟨go1006, (x5_1 : Int).toNat * 6 + 3, none⟩ = some (.int .i64 ((rd_T85 x190002_1 x5_1).f3)) := hcc1018 3 _ rfl
 have hx1018_4 : wr.cell? ⟨go1006, (x5_1 : Int).toNat * 6 + 4, none⟩ = some (.bool ((rd_T85 x190002_1 x5_1).f4)) := hcc1018 4 _ rfl
 have hx1018_5 : wr.cell? ⟨go1006, (x5_1 : Int).toNat * 6 + 5, none⟩ = some (.bool ((rd_T85 x190002_1 x5_1).f5)) := hcc1018 5 _ rfl
 have hf1018_0 : wr.frozen? ⟨go1006, (x5_1 : Int).toNat * 6, none⟩ = false := hfr1018 0
 have hf1018_1 : wr.frozen? ⟨go1006, (x5_1 : Int).toNat * 6 + 1, none⟩ = false := hfr1018 1
 have hf1018_2 : wr.frozen? ⟨go1006, (x5_1 : Int).toNat * 6 + 2, none⟩ = false := hfr1018 2
 have hf1018_3 : wr.frozen? ⟨go1006, (x5_1 : Int).toNat * 6 + 3, none⟩ = false := hfr1018 3
 have hf1018_4 : wr.frozen? ⟨go1006, (x5_1 : Int).toNat * 6 + 4, none⟩ = false := hfr1018 4
 have hf1018_5 : wr.frozen? ⟨go1006, (x5_1 : Int).toNat * 6 + 5, none⟩ = false := hfr1018 5
 clear hcl1018 hcc1018 hfr1018 hM1018
 (try rw [← Nbq1010.out] at hx1018_4)
 (try rw [← Nbq1014.out] at hx1018_4)
 (try rw [← Nbq1022.out] at hx1018_4)
 (try rw [← Nbq1010.out] at hx1018_5)
 (try rw [← Nbq1014.out] at hx1018_5)
 (try rw [← Nbq1022.out] at hx1018_5)
 replace p1018 := eq_true p1018
 replace q1018 := eq_true q1018
 have HX2002 := Aside0.mk (show Kd.R k85 85 wr w0.heap.size (fun k_ => (P0_2_ k_ ∨ w.heap.size ≤ k_)) (.slice (some ⟨go1006, 0, none⟩) x190002_1.length co1002) x190002_1 from (Rh HO_190002))
 obtain ⟨ce2002, hcl2002, hM2002, hcc2002, hfr2002⟩ := Kd.R_elem HX2002.out z85 (x5_1 : Int) (of_decide_eq_true (by first | (with_reducible assumption) | assumption)) (by have h_ : (x5_1 : Int) < ((x190002_1.length : Int) : Int) := of_decide_eq_true (by first | (with_reducible assumption) | assumption); first | exact h_ | (have e_ := (Kd.R_reads' HO_190002.out).1; omega) | simpa using h_)
 obtain rfl := k85_openM hM2002
 have HP2002 := Kd.R_seg HX2002.out (x5_1 : Int) (of_decide_eq_true (by first | (with_reducible assumption) | assumption)) (by have h_ : (x5_1 : Int) < ((x190002_1.length : Int) : Int) := of_decide_eq_true (by first | (with_reducible assumption) | assumption); first | exact h_ | (have e_ := (Kd.R_reads' HO_190002.out).1; omega) | simpa using h_) (seg := [.bool true]) (j := 5) hcl2002 hcc2002 (show 6 ≤ 6 from by decide) (x' := (⟨(rd_T85 x190002_1 x5_1).f0, (rd_T85 x190002_1 x5_1).f1, (rd_T85 x190002_1 x5_1).f2, (rd_T85 x190002_1 x5_1).f3, false, true⟩ : S85)) (by first | exact k85_mkM _ _ _ (⟨(rd_T85 x190002_1 x5_1).f0, (rd_T85 x190002_1 x5_1).f1, (rd_T85 x190002_1 x5_1).f2, (rd_T85 x190002_1 x5_1).f3, false, true⟩ : S85) | ((try (have e_ := Nbq1022.out; simp only [rd_T85] at e_; rw [← e_])); (try (have e_ := Nbq1014.out; simp only [rd_T85] at e_; rw [← e_])); (try (have e_ := Nbq1010.out; simp only [rd_T85] at e_; rw [← e_])); exact k85_mkM _ _ _ (⟨(rd_T85 x190002_1 x5_1).f0, (rd_T85 x190002_1 x5_1).f1, (rd_T85 x190002_1 x5_1).f2, (rd_T85 x190002_1 x5_1).f3, false, true⟩ : S85))) (fun _ hk => hk)
 have hx2002_5 := hcc2002 5 _ rfl
 (try simp only [show (k85).sz = 6 from rfl, Nat.mul_one, Nat.add_zero] at hx2002_5)
 have hf2002_5 := hfr2002 5
 (try simp only [show (k85).sz = 6 from rfl, Nat.mul_one, Nat.add_zero] at hf2002_5)
 clear hcl2002 hcc2002 hfr2002 hM2002
 go_wp2_with (first | ((with_reducible refine gate_store (t := 4) (p := 50) rfl ?_); (try (rw [drewN_self wr]; generalize hq_ : World.drewN wr _ = wr; have n0_ := Aside0.mk (Kd.R_at hq_ HO_190002.out); have n1_ := Aside0.mk (blk_at hq_ BK189.out); have n2_ := Aside0.mk (kept_at hq_ HK.out); have n3_ := Aside0.mk (below_at hq_ HB.out); clear hq_ HO_190002 BK189 HK HB; have HO_190002 := n0_; have BK189 := n1_; have HK := n2_; have HB := n3_; clear n0_ n1_ n2_ n3_; (try (obtain ⟨⟨hcyBK189_0, hcyBK189_1, hcyBK189_2⟩, hfyBK189_0, hfyBK189_1, hfyBK189_2⟩ := cells3 BK189.out)); (try (have HX2002 := Aside0.mk (show Kd.R k85 85 wr w0.heap.size (fun k_ => (P0_2_ k_ ∨ w.heap.size ≤ k_)) (.slice (some ⟨go1006, 0, none⟩) x190002_1.length co1002) x190002_1 from (Rh HO_190002)))); (try (obtain ⟨ce2002, hcl2002, hM2002, hcc2002, hfr2002⟩ := Kd.R_elem HX2002.out z85 (x5_1 : Int) (of_decide_eq_true (by first | (with_reducible assumption) | assumption)) (by have h_ : (x5_1 : Int) < ((x190002_1.length : Int) : Int) := of_decide_eq_true (by first | (with_reducible assumption) | assumption); first | exact h_ | (have e_ := (Kd.R_reads' HO_190002.out).1; omega) | simpa using h_))); (try (obtain rfl := k85_openM hM2002)); (try (have HP2002 := Kd.R_seg HX2002.out (x5_1 : Int) (of_decide_eq_true (by first | (with_reducible assumption) | assumption)) (by have h_ : (x5_1 : Int) < ((x190002_1.length : Int) : Int) := of_decide_eq_true (by first | (with_reducible assumption) | assumption); first | exact h_ | (have e_ := (Kd.R_reads' HO_190002.out).1; omega) | simpa using h_) (seg := [.bool true]) (j := 5) hcl2002 hcc2002 (show 6 ≤ 6 from by decide) (x' := (⟨(rd_T85 x190002_1 x5_1).f0, (rd_T85 x190002_1 x5_1).f1, (rd_T85 x190002_1 x5_1).f2, (rd_T85 x190002_1 x5_1).f3, false, true⟩ : S85)) (by first | exact k85_mkM _ _ _ (⟨(rd_T85 x190002_1 x5_1).f0, (rd_T85 x190002_1 x5_1).f1, (rd_T85 x190002_1 x5_1).f2, (rd_T85 x190002_1 x5_1).f3, false, true⟩ : S85) | ((try (have e_ := Nbq1022.out; simp only [rd_T85] at e_; rw [← e_])); (try (have e_ := Nbq1014.out; simp only [rd_T85] at e_; rw [← e_])); (try (have e_ := Nbq1010.out; simp only [rd_T85] at e_; rw [← e_])); exact k85_mkM _ _ _ (⟨(rd_T85 x190002_1 x5_1).f0, (rd_T85 x190002_1 x5_1).f1, (rd_T85 x190002_1 x5_1).f2, (rd_T85 x190002_1 x5_1).f3, false, true⟩ : S85))) (fun _ hk => hk))); (try (have hx2002_5 := hcc2002 5 _ rfl)); (try (try simp only [show (k85).sz = 6 from rfl, Nat.mul_one, Nat.add_zero] at hx2002_5)); (try (have hf2002_5 := hfr2002 5)); (try (try simp only [show (k85).sz = 6 from rfl, Nat.mul_one, Nat.add_zero] at hf2002_5)); (try (clear hcl2002 hcc2002 hfr2002 hM2002)))); refine store_event (t := 4) (p := 50) (v := ?_) (w1 := (wr.setCell ⟨go1006, (x5_1 : Int).toNat * 6 + 5, none⟩ (.bool true))) ?hg ?ho ?hn ?hr ?_; (case ho => rfl); (case hg => rfl); (case hn => rfl); (case hr => first | (go_simp; done) | (go_simp; rfl)); intro w2003 hw; have hg : wr.grownBy w2003 (some go1006) := (by rw [hw]; exact HP2002.2); have hp_ : Kd.R k85 85 w2003 w0.heap.size (fun k_ => (P0_2_ k_ ∨ w.heap.size ≤ k_)) (.slice (some ⟨go1006, 0, none⟩) x190002_1.length co1002) y190 := (by rw [hw, Ny190.out]; exact HP2002.1); clear HP2002; have n0_ := Aside0.mk (hp_); have n1_ := Aside0.mk (blk_grown (g := g) (o := .cells #[.int .i64 a0_0, .int .i64 a0_1, .slice (some ⟨go1006, 0, none⟩) x190002_1.length co1002] 126 (0, 0)) (Bh BK189) hg (Kd.R_ne HO_190002.out BK189.out (by decide))); have n2_ := Aside0.mk ((by rw [hw]; exact below_set (HB.out) GB1006.out : Below w0.heap.size w0 w2003)); have n3_ := Aside0.mk (Kept.of_grown (S := (fun k_ => P0_2_ k_)) hg (by repeat (first | (with_reducible first | exact HK.out | apply Kept.alloc | apply Kept.drewN | apply Kept.drew | refine Kept.setCell ?_ (.inr GW189.out) _) | exact HK.out)) (fun k_ e_ => (HO_190002.out.1 k_ e_))); clear HO_190002; clear BK189; clear HB; clear HK; have HO_190002 := n0_; have BK189 := n1_; have HB := n2_; have HK := n3_; clear n0_ n1_ n2_ n3_; clear hg hw hp_; have p1019 : 0 ≤ (x5_1 : Int) := of_decide_eq_true (by first | (with_reducible assumption) | assumption); have q1019 : (x5_1 : Int) < ((x190002_1.length : Int) : Int) := of_decide_eq_true (by first | (with_reducible assumption) | assumption); obtain ⟨ce1019, hcl1019, hM1019, hcc1019, hfr1019⟩ := Kd.R_elem HO_190002.out z85 (x5_1 : Int) p1019 q1019; obtain rfl := k85_openM hM1019; have hx1019_0 : w2003.cell? ⟨go1006, (x5_1 : Int).toNat * 6, none⟩ = some (.int .i64 ((rd_T85 y190 x5_1).f0)) := hcc1019 0 _ rfl; have hx1019_1 : w2003.cell? ⟨go1006, (x5_1 : Int).toNat * 6 + 1, none⟩ = some (.int .i64 ((rd_T85 y190 x5_1).f1)) := hcc1019 1 _ rfl; have hx1019_2 : w2003.cell? ⟨go1006, (x5_1 : Int).toNat * 6 + 2, none⟩ = some (.int .i64 ((rd_T85 y190 x5_1).f2)) := hcc1019 2 _ rfl; have hx1019_3 : w2003.cell? ⟨go1006, (x5_1 : Int).toNat * 6 + 3, none⟩ = some (.int .i64 ((rd_T85 y190 x5_1).f3)) := hcc1019 3 _ rfl; have hx1019_4 : w2003.cell? ⟨go1006, (x5_1 : Int).toNat * 6 + 4, none⟩ = some (.bool ((rd_T85 y190 x5_1).f4)) := hcc1019 4 _ rfl; have hx1019_5 : w2003.cell? ⟨go1006, (x5_1 : Int).toNat * 6 + 5, none⟩ = some (.bool ((rd_T85 y190 x5_1).f5)) := hcc1019 5 _ rfl; have hf1019_0 : w2003.frozen? ⟨go1006, (x5_1 : Int).toNat * 6, none⟩ = false := hfr1019 0; have hf1019_1 : w2003.frozen? ⟨go1006, (x5_1 : Int).toNat * 6 + 1, none⟩ = false := hfr1019 1; have hf1019_2 : w2003.frozen? ⟨go1006, (x5_1 : Int).toNat * 6 + 2, none⟩ = false := hfr1019 2; have hf1019_3 : w2003.frozen? ⟨go1006, (x5_1 : Int).toNat * 6 + 3, none⟩ = false := hfr1019 3; have hf1019_4 : w2003.frozen? ⟨go1006, (x5_1 : Int).toNat * 6 + 4, none⟩ = false := hfr1019 4; have hf1019_5 : w2003.frozen? ⟨go1006, (x5_1 : Int).toNat * 6 + 5, none⟩ = false := hfr1019 5; clear hcl1019 hcc1019 hfr1019 hM1019; (try rw [← Nbq1010.out] at hx1019_4); (try rw [← Nbq1014.out] at hx1019_4); (try rw [← Nbq1022.out] at hx1019_4); (try rw [← Nbq1010.out] at hx1019_5); (try rw [← Nbq1014.out] at hx1019_5); (try rw [← Nbq1022.out] at hx1019_5); replace p1019 := eq_true p1019; replace q1019 := eq_true q1019; have p1020 : 0 ≤ (x5_1 : Int) := of_decide_eq_true (by first | (with_reducible assumption) | assumption); have q1020 : (x5_1 : Int) < ((x190002_1.length : Int) : Int) := of_decide_eq_true (by first | (with_reducible assumption) | assumption); obtain ⟨ce1020, hcl1020, hM1020, hcc1020, hfr1020⟩ := Kd.R_elem HO_190002.out z85 (x5_1 : Int) p1020 q1020; obtain rfl := k85_openM hM1020; have hx1020_0 : w2003.cell? ⟨go1006, (x5_1 : Int).toNat * 6, none⟩ = some (.int .i64 ((rd_T85 y190 x5_1).f0)) := hcc1020 0 _ rfl; have hx1020_1 : w2003.cell? ⟨go1006, (x5_1 : Int).toNat * 6 + 1, none⟩ = some (.int .i64 ((rd_T85 y190 x5_1).f1)) := hcc1020 1 _ rfl; have hx1020_2 : w2003.cell? ⟨go1006, (x5_1 : Int).toNat * 6 + 2, none⟩ = some (.int .i64 ((rd_T85 y190 x5_1).f2)) := hcc1020 2 _ rfl; have hx1020_3 : w2003.cell? ⟨go1006, (x5_1 : Int).toNat * 6 + 3, none⟩ = some (.int .i64 ((rd_T85 y190 x5_1).f3)) := hcc1020 3 _ rfl; have hx1020_4 : w2003.cell? ⟨go1006, (x5_1 : Int).toNat * 6 + 4, none⟩ = some (.bool ((rd_T85 y190 x5_1).f4)) := hcc1020 4 _ rfl; have hx1020_5 : w2003.cell? ⟨go1006, (x5_1 : Int).toNat * 6 + 5, none⟩ = some (.bool ((rd_T85 y190 x5_1).f5)) := hcc1020 5 _ rfl; have hf1020_0 : w2003.frozen? ⟨go1006, (x5_1 : Int).toNat * 6, none⟩ = false := hfr1020 0; have hf1020_1 : w2003.frozen? ⟨go1006, (x5_1 : Int).toNat * 6 + 1, none⟩ = false := hfr1020 1; have hf1020_2 : w2003.frozen? ⟨go1006, (x5_1 : Int).toNat * 6 + 2, none⟩ = false := hfr1020 2; have hf1020_3 : w2003.frozen? ⟨go1006, (x5_1 : Int).toNat * 6 + 3, none⟩ = false := hfr1020 3; have hf1020_4 : w2003.frozen? ⟨go1006, (x5_1 : Int).toNat * 6 + 4, none⟩ = false := hfr1020 4; have hf1020_5 : w2003.frozen? ⟨go1006, (x5_1 : Int).toNat * 6 + 5, none⟩ = false := hfr1020 5; clear hcl1020 hcc1020 hfr1020 hM1020; (try rw [← Nbq1010.out] at hx1020_4); (try rw [← Nbq1014.out] at hx1020_4); (try rw [← Nbq1022.out] at hx1020_4); (try rw [← Nbq1010.out] at hx1020_5); (try rw [← Nbq1014.out] at hx1020_5); (try rw [← Nbq1022.out] at hx1020_5); replace p1020 := eq_true p1020; replace q1020 := eq_true q1020; have p1021 : 0 ≤ (x5_1 : Int) := of_decide_eq_true (by first | (with_reducible assumption) | assumption); have q1021 : (x5_1 : Int) < ((x190002_1.length : Int) : Int) := of_decide_eq_true (by first | (with_reducible assumption) | assumption); obtain ⟨ce1021, hcl1021, hM1021, hcc1021, hfr1021⟩ := Kd.R_elem HO_190002.out z85 (x5_1 : Int) p1021 q1021; obtain rfl := k85_openM hM1021; have hx1021_0 : w2003.cell? ⟨go1006, (x5_1 : Int).toNat * 6, none⟩ = some (.int .i64 ((rd_T85 y190 x5_1).f0)) := hcc1021 0 _ rfl; have hx1021_1 : w2003.cell? ⟨go1006, (x5_1 : Int).toNat * 6 + 1, none⟩ = some (.int .i64 ((rd_T85 y190 x5_1).f1)) := hcc1021 1 _ rfl; have hx1021_2 : w2003.cell? ⟨go1006, (x5_1 : Int).toNat * 6 + 2, none⟩ = some (.int .i64 ((rd_T85 y190 x5_1).f2)) := hcc1021 2 _ rfl; have hx1021_3 : w2003.cell? ⟨go1006, (x5_1 : Int).toNat * 6 + 3, none⟩ = some (.int .i64 ((rd_T85 y190 x5_1).f3)) := hcc1021 3 _ rfl; have hx1021_4 : w2003.cell? ⟨go1006, (x5_1 : Int).toNat * 6 + 4, none⟩ = some (.bool ((rd_T85 y190 x5_1).f4)) := hcc1021 4 _ rfl; have hx1021_5 : w2003.cell? ⟨go1006, (x5_1 : Int).toNat * 6 + 5, none⟩ = some (.bool ((rd_T85 y190 x5_1).f5)) := hcc1021 5 _ rfl; have hf1021_0 : w2003.frozen? ⟨go1006, (x5_1 : Int).toNat * 6, none⟩ = false := hfr1021 0; have hf1021_1 : w2003.frozen? ⟨go1006, (x5_1 : Int).toNat * 6 + 1, none⟩ = false := hfr1021 1; have hf1021_2 : w2003.frozen? ⟨go1006, (x5_1 : Int).toNat * 6 + 2, none⟩ = false := hfr1021 2; have hf1021_3 : w2003.frozen? ⟨go1006, (x5_1 : Int).toNat * 6 + 3, none⟩ = false := hfr1021 3; have hf1021_4 : w2003.frozen? ⟨go1006, (x5_1 : Int).toNat * 6 + 4, none⟩ = false := hfr1021 4; have hf1021_5 : w2003.frozen? ⟨go1006, (x5_1 : Int).toNat * 6 + 5, none⟩ = false := hfr1021 5; clear hcl1021 hcc1021 hfr1021 hM1021; (try rw [← Nbq1010.out] at hx1021_4); (try rw [← Nbq1014.out] at hx1021_4); (try rw [← Nbq1022.out] at hx1021_4); (try rw [← Nbq1010.out] at hx1021_5); (try rw [← Nbq1014.out] at hx1021_5); (try rw [← Nbq1022.out] at hx1021_5); replace p1021 := eq_true p1021; replace q1021 := eq_true q1021))
 repeat (go_quiet (first | ((with_reducible refine gate_store (t := 4) (p := 50) rfl ?_); (try (rw [drewN_self wr]; generalize hq_ : World.drewN wr _ = wr; have n0_ := Aside0.mk (Kd.R_at hq_ HO_190002.out); have n1_ := Aside0.mk (blk_at hq_ BK189.out); have n2_ := Aside0.mk (kept_at hq_ HK.out); have n3_ := Aside0.mk (below_at hq_ HB.out); clear hq_ HO_190002 BK189 HK HB; have HO_190002 := n0_; have BK189 := n1_; have HK := n2_; have HB := n3_; clear n0_ n1_ n2_ n3_; (try (obtain ⟨⟨hcyBK189_0, hcyBK189_1, hcyBK189_2⟩, hfyBK189_0, hfyBK189_1, hfyBK189_2⟩ := cells3 BK189.out)); (try (have HX2002 := Aside0.mk (show Kd.R k85 85 wr w0.heap.size (fun k_ => (P0_2_ k_ ∨ w.heap.size ≤ k_)) (.slice (some ⟨go1006, 0, none⟩) x190002_1.length co1002) x190002_1 from (Rh HO_190002)))); (try (obtain ⟨ce2002, hcl2002, hM2002, hcc2002, hfr2002⟩ := Kd.R_elem HX2002.out z85 (x5_1 : Int) (of_decide_eq_true (by first | (with_reducible assumption) | assumption)) (by have h_ : (x5_1 : Int) < ((x190002_1.length : Int) : Int) := of_decide_eq_true (by first | (with_reducible assumption) | assumption); first | exact h_ | (have e_ := (Kd.R_reads' HO_190002.out).1; omega) | simpa using h_))); (try (obtain rfl := k85_openM hM2002)); (try (have HP2002 := Kd.R_seg HX2002.out (x5_1 : Int) (of_decide_eq_true (by first | (with_reducible assumption) | assumption)) (by have h_ : (x5_1 : Int) < ((x190002_1.length : Int) : Int) := of_decide_eq_true (by first | (with_reducible assumption) | assumption); first | exact h_ | (have e_ := (Kd.R_reads' HO_190002.out).1; omega) | simpa using h_) (seg := [.bool true]) (j := 5) hcl2002 hcc2002 (show 6 ≤ 6 from by decide) (x' := (⟨(rd_T85 x190002_1 x5_1).f0, (rd_T85 x190002_1 x5_1).f1, (rd_T85 x190002_1 x5_1).f2, (rd_T85 x190002_1 x5_1).f3, false, true⟩ : S85)) (by first | exact k85_mkM _ _ _ (⟨(rd_T85 x190002_1 x5_1).f0, (rd_T85 x190002_1 x5_1).f1, (rd_T85 x190002_1 x5_1).f2, (rd_T85 x190002_1 x5_1).f3, false, true⟩ : S85) | ((try (have e_ := Nbq1022.out; simp only [rd_T85] at e_; rw [← e_])); (try (have e_ := Nbq1014.out; simp only [rd_T85] at e_; rw [← e_])); (try (have e_ := Nbq1010.out; simp only [rd_T85] at e_; rw [← e_])); exact k85_mkM _ _ _ (⟨(rd_T85 x190002_1 x5_1).f0, (rd_T85 x190002_1 x5_1).f1, (rd_T85 x190002_1 x5_1).f2, (rd_T85 x190002_1 x5_1).f3, false, true⟩ : S85))) (fun _ hk => hk))); (try (have hx2002_5 := hcc2002 5 _ rfl)); (try (try simp only [show (k85).sz = 6 from rfl, Nat.mul_one, Nat.add_zero] at hx2002_5)); (try (have hf2002_5 := hfr2002 5)); (try (try simp only [show (k85).sz = 6 from rfl, Nat.mul_one, Nat.add_zero] at hf2002_5)); (try (clear hcl2002 hcc2002 hfr2002 hM2002)))); refine store_event (t := 4) (p := 50) (v := ?_) (w1 := (wr.setCell ⟨go1006, (x5_1 : Int).toNat * 6 + 5, none⟩ (.bool true))) ?hg ?ho ?hn ?hr ?_; (case ho => rfl); (case hg => rfl); (case hn => rfl); (case hr => first | (go_simp; done) | (go_simp; rfl)); intro w2003 hw; have hg : wr.grownBy w2003 (some go1006) := (by rw [hw]; exact HP2002.2); have hp_ : Kd.R k85 85 w2003 w0.heap.size (fun k_ => (P0_2_ k_ ∨ w.heap.size ≤ k_)) (.slice (some ⟨go1006, 0, none⟩) x190002_1.length co1002) y190 := (by rw [hw, Ny190.out]; exact HP2002.1); clear HP2002; have n0_ := Aside0.mk (hp_); have n1_ := Aside0.mk (blk_grown (g := g) (o := .cells #[.int .i64 a0_0, .int .i64 a0_1, .slice (some ⟨go1006, 0, none⟩) x190002_1.length co1002] 126 (0, 0)) (Bh BK189) hg (Kd.R_ne HO_190002.out BK189.out (by decide))); have n2_ := Aside0.mk ((by rw [hw]; exact below_set (HB.out) GB1006.out : Below w0.heap.size w0 w2003)); have n3_ := Aside0.mk (Kept.of_grown (S := (fun k_ => P0_2_ k_)) hg (by repeat (first | (with_reducible first | exact HK.out | apply Kept.alloc | apply Kept.drewN | apply Kept.drew | refine Kept.setCell ?_ (.inr GW189.out) _) | exact HK.out)) (fun k_ e_ => (HO_190002.out.1 k_ e_))); clear HO_190002; clear BK189; clear HB; clear HK; have HO_190002 := n0_; have BK189 := n1_; have HB := n2_; have HK := n3_; clear n0_ n1_ n2_ n3_; clear hg hw hp_; have p1019 : 0 ≤ (x5_1 : Int) := of_decide_eq_true (by first | (with_reducible assumption) | assumption); have q1019 : (x5_1 : Int) < ((x190002_1.length : Int) : Int) := of_decide_eq_true (by first | (with_reducible assumption) | assumption); obtain ⟨ce1019, hcl1019, hM1019, hcc1019, hfr1019⟩ := Kd.R_elem HO_190002.out z85 (x5_1 : Int) p1019 q1019; obtain rfl := k85_openM hM1019; have hx1019_0 : w2003.cell? ⟨go1006, (x5_1 : Int).toNat * 6, none⟩ = some (.int .i64 ((rd_T85 y190 x5_1).f0)) := hcc1019 0 _ rfl; have hx1019_1 : w2003.cell? ⟨go1006, (x5_1 : Int).toNat * 6 + 1, none⟩ = some (.int .i64 ((rd_T85 y190 x5_1).f1)) := hcc1019 1 _ rfl; have hx1019_2 : w2003.cell? ⟨go1006, (x5_1 : Int).toNat * 6 + 2, none⟩ = some (.int .i64 ((rd_T85 y190 x5_1).f2)) := hcc1019 2 _ rfl; have hx1019_3 : w2003.cell? ⟨go1006, (x5_1 : Int).toNat * 6 + 3, none⟩ = some (.int .i64 ((rd_T85 y190 x5_1).f3)) := hcc1019 3 _ rfl; have hx1019_4 : w2003.cell? ⟨go1006, (x5_1 : Int).toNat * 6 + 4, none⟩ = some (.bool ((rd_T85 y190 x5_1).f4)) := hcc1019 4 _ rfl; have hx1019_5 : w2003.cell? ⟨go1006, (x5_1 : Int).toNat * 6 + 5, none⟩ = some (.bool ((rd_T85 y190 x5_1).f5)) := hcc1019 5 _ rfl; have hf1019_0 : w2003.frozen? ⟨go1006, (x5_1 : Int).toNat * 6, none⟩ = false := hfr1019 0; have hf1019_1 : w2003.frozen? ⟨go1006, (x5_1 : Int).toNat * 6 + 1, none⟩ = false := hfr1019 1; have hf1019_2 : w2003.frozen? ⟨go1006, (x5_1 : Int).toNat * 6 + 2, none⟩ = false := hfr1019 2; have hf1019_3 : w2003.frozen? ⟨go1006, (x5_1 : Int).toNat * 6 + 3, none⟩ = false := hfr1019 3; have hf1019_4 : w2003.frozen? ⟨go1006, (x5_1 : Int).toNat * 6 + 4, none⟩ = false := hfr1019 4; have hf1019_5 : w2003.frozen? ⟨go1006, (x5_1 : Int).toNat * 6 + 5, none⟩ = false := hfr1019 5; clear hcl1019 hcc1019 hfr1019 hM1019; (try rw [← Nbq1010.out] at hx1019_4); (try rw [← Nbq1014.out] at hx1019_4); (try rw [← Nbq1022.out] at hx1019_4); (try rw [← Nbq1010.out] at hx1019_5); (try rw [← Nbq1014.out] at hx1019_5); (try rw [← Nbq1022.out] at hx1019_5); replace p1019 := eq_true p1019; replace q1019 := eq_true q1019; have p1020 : 0 ≤ (x5_1 : Int) := of_decide_eq_true (by first | (with_reducible assumption) | assumption); have q1020 : (x5_1 : Int) < ((x190002_1.length : Int) : Int) := of_decide_eq_true (by first | (with_reducible assumption) | assumption); obtain ⟨ce1020, hcl1020, hM1020, hcc1020, hfr1020⟩ := Kd.R_elem HO_190002.out z85 (x5_1 : Int) p1020 q1020; obtain rfl := k85_openM hM1020; have hx1020_0 : w2003.cell? ⟨go1006, (x5_1 : Int).toNat * 6, none⟩ = some (.int .i64 ((rd_T85 y190 x5_1).f0)) := hcc1020 0 _ rfl; have hx1020_1 : w2003.cell? ⟨go1006, (x5_1 : Int).toNat * 6 + 1, none⟩ = some (.int .i64 ((rd_T85 y190 x5_1).f1)) := hcc1020 1 _ rfl; have hx1020_2 : w2003.cell? ⟨go1006, (x5_1 : Int).toNat * 6 + 2, none⟩ = some (.int .i64 ((rd_T85 y190 x5_1).f2)) := hcc1020 2 _ rfl; have hx1020_3 : w2003.cell? ⟨go1006, (x5_1 : Int).toNat * 6 + 3, none⟩ = some (.int .i64 ((rd_T85 y190 x5_1).f3)) := hcc1020 3 _ rfl; have hx1020_4 : w2003.cell? ⟨go1006, (x5_1 : Int).toNat * 6 + 4, none⟩ = some (.bool ((rd_T85 y190 x5_1).f4)) := hcc1020 4 _ rfl; have hx1020_5 : w2003.cell? ⟨go1006, (x5_1 : Int).toNat * 6 + 5, none⟩ = some (.bool ((rd_T85 y190 x5_1).f5)) := hcc1020 5 _ rfl; have hf1020_0 : w2003.frozen? ⟨go1006, (x5_1 : Int).toNat * 6, none⟩ = false := hfr1020 0; have hf1020_1 : w2003.frozen? ⟨go1006, (x5_1 : Int).toNat * 6 + 1, none⟩ = false := hfr1020 1; have hf1020_2 : w2003.frozen? ⟨go1006, (x5_1 : Int).toNat * 6 + 2, none⟩ = false := hfr1020 2; have hf1020_3 : w2003.frozen? ⟨go1006, (x5_1 : Int).toNat * 6 + 3, none⟩ = false := hfr1020 3; have hf1020_4 : w2003.frozen? ⟨go1006, (x5_1 : Int).toNat * 6 + 4, none⟩ = false := hfr1020 4; have hf1020_5 : w2003.frozen? ⟨go1006, (x5_1 : Int).toNat * 6 + 5, none⟩ = false := hfr1020 5; clear hcl1020 hcc1020 hfr1020 hM1020; (try rw [← Nbq1010.out] at hx1020_4); (try rw [← Nbq1014.out] at hx1020_4); (try rw [← Nbq1022.out] at hx1020_4); (try rw [← Nbq1010.out] at hx1020_5); (try rw [← Nbq1014.out] at hx1020_5); (try rw [← Nbq1022.out] at hx1020_5); replace p1020 := eq_true p1020; replace q1020 := eq_true q1020; have p1021 : 0 ≤ (x5_1 : Int) := of_decide_eq_true (by first | (with_reducible assumption) | assumption); have q1021 : (x5_1 : Int) < ((x190002_1.length : Int) : Int) := of_decide_eq_true (by first | (with_reducible assumption) | assumption); obtain ⟨ce1021, hcl1021, hM1021, hcc1021, hfr1021⟩ := Kd.R_elem HO_190002.out z85 (x5_1 : Int) p1021 q1021; obtain rfl := k85_openM hM1021; have hx1021_0 : w2003.cell? ⟨go1006, (x5_1 : Int).toNat * 6, none⟩ = some (.int .i64 ((rd_T85 y190 x5_1).f0)) := hcc1021 0 _ rfl; have hx1021_1 : w2003.cell? ⟨go1006, (x5_1 : Int).toNat * 6 + 1, none⟩ = some (.int .i64 ((rd_T85 y190 x5_1).f1)) := hcc1021 1 _ rfl; have hx1021_2 : w2003.cell? ⟨go1006, (x5_1 : Int).toNat * 6 + 2, none⟩ = some (.int .i64 ((rd_T85 y190 x5_1).f2)) := hcc1021 2 _ rfl; have hx1021_3 : w2003.cell? ⟨go1006, (x5_1 : Int).toNat * 6 + 3, none⟩ = some (.int .i64 ((rd_T85 y190 x5_1).f3)) := hcc1021 3 _ rfl; have hx1021_4 : w2003.cell? ⟨go1006, (x5_1 : Int).toNat * 6 + 4, none⟩ = some (.bool ((rd_T85 y190 x5_1).f4)) := hcc1021 4 _ rfl; have hx1021_5 : w2003.cell? ⟨go1006, (x5_1 : Int).toNat * 6 + 5, none⟩ = some (.bool ((rd_T85 y190 x5_1).f5)) := hcc1021 5 _ rfl; have hf1021_0 : w2003.frozen? ⟨go1006, (x5_1 : Int).toNat * 6, none⟩ = false := hfr1021 0; have hf1021_1 : w2003.frozen? ⟨go1006, (x5_1 : Int).toNat * 6 + 1, none⟩ = false := hfr1021 1; have hf1021_2 : w2003.frozen? ⟨go1006, (x5_1 : Int).toNat * 6 + 2, none⟩ = false := hfr1021 2; have hf1021_3 : w2003.frozen? ⟨go1006, (x5_1 : Int).toNat * 6 + 3, none⟩ = false := hfr1021 3; have hf1021_4 : w2003.frozen? ⟨go1006, (x5_1 : Int).toNat * 6 + 4, none⟩ = false := hfr1021 4; have hf1021_5 : w2003.frozen? ⟨go1006, (x5_1 : Int).toNat * 6 + 5, none⟩ = false := hfr1021 5; clear hcl1021 hcc1021 hfr1021 hM1021; (try rw [← Nbq1010.out] at hx1021_4); (try rw [← Nbq1014.out] at hx1021_4); (try rw [← Nbq1022.out] at hx1021_4); (try rw [← Nbq1010.out] at hx1021_5); (try rw [← Nbq1014.out] at hx1021_5); (try rw [← Nbq1022.out] at hx1021_5); replace p1021 := eq_true p1021; replace q1021 := eq_true q1021)); try go_wp2_with (first | ((with_reducible refine gate_store (t := 4) (p := 50) rfl ?_); (try (rw [drewN_self wr]; generalize hq_ : World.drewN wr _ = wr; have n0_ := Aside0.mk (Kd.R_at hq_ HO_190002.out); have n1_ := Aside0.mk (blk_at hq_ BK189.out); have n2_ := Aside0.mk (kept_at hq_ HK.out); have n3_ := Aside0.mk (below_at hq_ HB.out); clear hq_ HO_190002 BK189 HK HB; have HO_190002 := n0_; have BK189 := n1_; have HK := n2_; have HB := n3_; clear n0_ n1_ n2_ n3_; (try (obtain ⟨⟨hcyBK189_0, hcyBK189_1, hcyBK189_2⟩, hfyBK189_0, hfyBK189_1, hfyBK189_2⟩ := cells3 BK189.out)); (try (have HX2002 := Aside0.mk (show Kd.R k85 85 wr w0.heap.size (fun k_ => (P0_2_ k_ ∨ w.heap.size ≤ k_)) (.slice (some ⟨go1006, 0, none⟩) x190002_1.length co1002) x190002_1 from (Rh HO_190002)))); (try (obtain ⟨ce2002, hcl2002, hM2002, hcc2002, hfr2002⟩ := Kd.R_elem HX2002.out z85 (x5_1 : Int) (of_decide_eq_true (by first | (with_reducible assumption) | assumption)) (by have h_ : (x5_1 : Int) < ((x190002_1.length : Int) : Int) := of_decide_eq_true (by first | (with_reducible assumption) | assumption); first | exact h_ | (have e_ := (Kd.R_reads' HO_190002.out).1; omega) | simpa using h_))); (try (obtain rfl := k85_openM hM2002)); (try (have HP2002 := Kd.R_seg HX2002.out (x5_1 : Int) (of_decide_eq_true (by first | (with_reducible assumption) | assumption)) (by have h_ : (x5_1 : Int) < ((x190002_1.length : Int) : Int) := of_decide_eq_true (by first | (with_reducible assumption) | assumption); first | exact h_ | (have e_ := (Kd.R_reads' HO_190002.out).1; omega) | simpa using h_) (seg := [.bool true]) (j := 5) hcl2002 hcc2002 (show 6 ≤ 6 from by decide) (x' := (⟨(rd_T85 x190002_1 x5_1).f0, (rd_T85 x190002_1 x5_1).f1, (rd_T85 x190002_1 x5_1).f2, (rd_T85 x190002_1 x5_1).f3, false, true⟩ : S85)) (by first | exact k85_mkM _ _ _ (⟨(rd_T85 x190002_1 x5_1).f0, (rd_T85 x190002_1 x5_1).f1, (rd_T85 x190002_1 x5_1).f2, (rd_T85 x190002_1 x5_1).f3, false, true⟩ : S85) | ((try (have e_ := Nbq1022.out; simp only [rd_T85] at e_; rw [← e_])); (try (have e_ := Nbq1014.out; simp only [rd_T85] at e_; rw [← e_])); (try (have e_ := Nbq1010.out; simp only [rd_T85] at e_; rw [← e_])); exact k85_mkM _ _ _ (⟨(rd_T85 x190002_1 x5_1).f0, (rd_T85 x190002_1 x5_1).f1, (rd_T85 x190002_1 x5_1).f2, (rd_T85 x190002_1 x5_1).f3, false, true⟩ : S85))) (fun _ hk => hk))); (try (have hx2002_5 := hcc2002 5 _ rfl)); (try (try simp only [show (k85).sz = 6 from rfl, Nat.mul_one, Nat.add_zero] at hx2002_5)); (try (have hf2002_5 := hfr2002 5)); (try (try simp only [show (k85).sz = 6 from rfl, Nat.mul_one, Nat.add_zero] at hf2002_5)); (try (clear hcl2002 hcc2002 hfr2002 hM2002)))); refine store_event (t := 4) (p := 50) (v := ?_) (w1 := (wr.setCell ⟨go1006, (x5_1 : Int).toNat * 6 + 5, none⟩ (.bool true))) ?hg ?ho ?hn ?hr ?_; (case ho => rfl); (case hg => rfl); (case hn => rfl); (case hr => first | (go_simp; done) | (go_simp; rfl)); intro w2003 hw; have hg : wr.grownBy w2003 (some go1006) := (by rw [hw]; exact HP2002.2); have hp_ : Kd.R k85 85 w2003 w0.heap.size (fun k_ => (P0_2_ k_ ∨ w.heap.size ≤ k_)) (.slice (some ⟨go1006, 0, none⟩) x190002_1.length co1002) y190 := (by rw [hw, Ny190.out]; exact HP2002.1); clear HP2002; have n0_ := Aside0.mk (hp_); have n1_ := Aside0.mk (blk_grown (g := g) (o := .cells #[.int .i64 a0_0, .int .i64 a0_1, .slice (some ⟨go1006, 0, none⟩) x190002_1.length co1002] 126 (0, 0)) (Bh BK189) hg (Kd.R_ne HO_190002.out BK189.out (by decide))); have n2_ := Aside0.mk ((by rw [hw]; exact below_set (HB.out) GB1006.out : Below w0.heap.size w0 w2003)); have n3_ := Aside0.mk (Kept.of_grown (S := (fun k_ => P0_2_ k_)) hg (by repeat (first | (with_reducible first | exact HK.out | apply Kept.alloc | apply Kept.drewN | apply Kept.drew | refine Kept.setCell ?_ (.inr GW189.out) _) | exact HK.out)) (fun k_ e_ => (HO_190002.out.1 k_ e_))); clear HO_190002; clear BK189; clear HB; clear HK; have HO_190002 := n0_; have BK189 := n1_; have HB := n2_; have HK := n3_; clear n0_ n1_ n2_ n3_; clear hg hw hp_; have p1019 : 0 ≤ (x5_1 : Int) := of_decide_eq_true (by first | (with_reducible assumption) | assumption); have q1019 : (x5_1 : Int) < ((x190002_1.length : Int) : Int) := of_decide_eq_true (by first | (with_reducible assumption) | assumption); obtain ⟨ce1019, hcl1019, hM1019, hcc1019, hfr1019⟩ := Kd.R_elem HO_190002.out z85 (x5_1 : Int) p1019 q1019; obtain rfl := k85_openM hM1019; have hx1019_0 : w2003.cell? ⟨go1006, (x5_1 : Int).toNat * 6, none⟩ = some (.int .i64 ((rd_T85 y190 x5_1).f0)) := hcc1019 0 _ rfl; have hx1019_1 : w2003.cell? ⟨go1006, (x5_1 : Int).toNat * 6 + 1, none⟩ = some (.int .i64 ((rd_T85 y190 x5_1).f1)) := hcc1019 1 _ rfl; have hx1019_2 : w2003.cell? ⟨go1006, (x5_1 : Int).toNat * 6 + 2, none⟩ = some (.int .i64 ((rd_T85 y190 x5_1).f2)) := hcc1019 2 _ rfl; have hx1019_3 : w2003.cell? ⟨go1006, (x5_1 : Int).toNat * 6 + 3, none⟩ = some (.int .i64 ((rd_T85 y190 x5_1).f3)) := hcc1019 3 _ rfl; have hx1019_4 : w2003.cell? ⟨go1006, (x5_1 : Int).toNat * 6 + 4, none⟩ = some (.bool ((rd_T85 y190 x5_1).f4)) := hcc1019 4 _ rfl; have hx1019_5 : w2003.cell? ⟨go1006, (x5_1 : Int).toNat * 6 + 5, none⟩ = some (.bool ((rd_T85 y190 x5_1).f5)) := hcc1019 5 _ rfl; have hf1019_0 : w2003.frozen? ⟨go1006, (x5_1 : Int).toNat * 6, none⟩ = false := hfr1019 0; have hf1019_1 : w2003.frozen? ⟨go1006, (x5_1 : Int).toNat * 6 + 1, none⟩ = false := hfr1019 1; have hf1019_2 : w2003.frozen? ⟨go1006, (x5_1 : Int).toNat * 6 + 2, none⟩ = false := hfr1019 2; have hf1019_3 : w2003.frozen? ⟨go1006, (x5_1 : Int).toNat * 6 + 3, none⟩ = false := hfr1019 3; have hf1019_4 : w2003.frozen? ⟨go1006, (x5_1 : Int).toNat * 6 + 4, none⟩ = false := hfr1019 4; have hf1019_5 : w2003.frozen? ⟨go1006, (x5_1 : Int).toNat * 6 + 5, none⟩ = false := hfr1019 5; clear hcl1019 hcc1019 hfr1019 hM1019; (try rw [← Nbq1010.out] at hx1019_4); (try rw [← Nbq1014.out] at hx1019_4); (try rw [← Nbq1022.out] at hx1019_4); (try rw [← Nbq1010.out] at hx1019_5); (try rw [← Nbq1014.out] at hx1019_5); (try rw [← Nbq1022.out] at hx1019_5); replace p1019 := eq_true p1019; replace q1019 := eq_true q1019; have p1020 : 0 ≤ (x5_1 : Int) := of_decide_eq_true (by first | (with_reducible assumption) | assumption); have q1020 : (x5_1 : Int) < ((x190002_1.length : Int) : Int) := of_decide_eq_true (by first | (with_reducible assumption) | assumption); obtain ⟨ce1020, hcl1020, hM1020, hcc1020, hfr1020⟩ := Kd.R_elem HO_190002.out z85 (x5_1 : Int) p1020 q1020; obtain rfl := k85_openM hM1020; have hx1020_0 : w2003.cell? ⟨go1006, (x5_1 : Int).toNat * 6, none⟩ = some (.int .i64 ((rd_T85 y190 x5_1).f0)) := hcc1020 0 _ rfl; have hx1020_1 : w2003.cell? ⟨go1006, (x5_1 : Int).toNat * 6 + 1, none⟩ = some (.int .i64 ((rd_T85 y190 x5_1).f1)) := hcc1020 1 _ rfl; have hx1020_2 : w2003.cell? ⟨go1006, (x5_1 : Int).toNat * 6 + 2, none⟩ = some (.int .i64 ((rd_T85 y190 x5_1).f2)) := hcc1020 2 _ rfl; have hx1020_3 : w2003.cell? ⟨go1006, (x5_1 : Int).toNat * 6 + 3, none⟩ = some (.int .i64 ((rd_T85 y190 x5_1).f3)) := hcc1020 3 _ rfl; have hx1020_4 : w2003.cell? ⟨go1006, (x5_1 : Int).toNat * 6 + 4, none⟩ = some (.bool ((rd_T85 y190 x5_1).f4)) := hcc1020 4 _ rfl; have hx1020_5 : w2003.cell? ⟨go1006, (x5_1 : Int).toNat * 6 + 5, none⟩ = some (.bool ((rd_T85 y190 x5_1).f5)) := hcc1020 5 _ rfl; have hf1020_0 : w2003.frozen? ⟨go1006, (x5_1 : Int).toNat * 6, none⟩ = false := hfr1020 0; have hf1020_1 : w2003.frozen? ⟨go1006, (x5_1 : Int).toNat * 6 + 1, none⟩ = false := hfr1020 1; have hf1020_2 : w2003.frozen? ⟨go1006, (x5_1 : Int).toNat * 6 + 2, none⟩ = false := hfr1020 2; have hf1020_3 : w2003.frozen? ⟨go1006, (x5_1 : Int).toNat * 6 + 3, none⟩ = false := hfr1020 3; have hf1020_4 : w2003.frozen? ⟨go1006, (x5_1 : Int).toNat * 6 + 4, none⟩ = false := hfr1020 4; have hf1020_5 : w2003.frozen? ⟨go1006, (x5_1 : Int).toNat * 6 + 5, none⟩ = false := hfr1020 5; clear hcl1020 hcc1020 hfr1020 hM1020; (try rw [← Nbq1010.out] at hx1020_4); (try rw [← Nbq1014.out] at hx1020_4); (try rw [← Nbq1022.out] at hx1020_4); (try rw [← Nbq1010.out] at hx1020_5); (try rw [← Nbq1014.out] at hx1020_5); (try rw [← Nbq1022.out] at hx1020_5); replace p1020 := eq_true p1020; replace q1020 := eq_true q1020; have p1021 : 0 ≤ (x5_1 : Int) := of_decide_eq_true (by first | (with_reducible assumption) | assumption); have q1021 : (x5_1 : Int) < ((x190002_1.length : Int) : Int) := of_decide_eq_true (by first | (with_reducible assumption) | assumption); obtain ⟨ce1021, hcl1021, hM1021, hcc1021, hfr1021⟩ := Kd.R_elem HO_190002.out z85 (x5_1 : Int) p1021 q1021; obtain rfl := k85_openM hM1021; have hx1021_0 : w2003.cell? ⟨go1006, (x5_1 : Int).toNat * 6, none⟩ = some (.int .i64 ((rd_T85 y190 x5_1).f0)) := hcc1021 0 _ rfl; have hx1021_1 : w2003.cell? ⟨go1006, (x5_1 : Int).toNat * 6 + 1, none⟩ = some (.int .i64 ((rd_T85 y190 x5_1).f1)) := hcc1021 1 _ rfl; have hx1021_2 : w2003.cell? ⟨go1006, (x5_1 : Int).toNat * 6 + 2, none⟩ = some (.int .i64 ((rd_T85 y190 x5_1).f2)) := hcc1021 2 _ rfl; have hx1021_3 : w2003.cell? ⟨go1006, (x5_1 : Int).toNat * 6 + 3, none⟩ = some (.int .i64 ((rd_T85 y190 x5_1).f3)) := hcc1021 3 _ rfl; have hx1021_4 : w2003.cell? ⟨go1006, (x5_1 : Int).toNat * 6 + 4, none⟩ = some (.bool ((rd_T85 y190 x5_1).f4)) := hcc1021 4 _ rfl; have hx1021_5 : w2003.cell? ⟨go1006, (x5_1 : Int).toNat * 6 + 5, none⟩ = some (.bool ((rd_T85 y190 x5_1).f5)) := hcc1021 5 _ rfl; have hf1021_0 : w2003.frozen? ⟨go1006, (x5_1 : Int).toNat * 6, none⟩ = false := hfr1021 0; have hf1021_1 : w2003.frozen? ⟨go1006, (x5_1 : Int).toNat * 6 + 1, none⟩ = false := hfr1021 1; have hf1021_2 : w2003.frozen? ⟨go1006, (x5_1 : Int).toNat * 6 + 2, none⟩ = false := hfr1021 2; have hf1021_3 : w2003.frozen? ⟨go1006, (x5_1 : Int).toNat * 6 + 3, none⟩ = false := hfr1021 3; have hf1021_4 : w2003.frozen? ⟨go1006, (x5_1 : Int).toNat * 6 + 4, none⟩ = false := hfr1021 4; have hf1021_5 : w2003.frozen? ⟨go1006, (x5_1 : Int).toNat * 6 + 5, none⟩ = false := hfr1021 5; clear hcl1021 hcc1021 hfr1021 hM1021; (try rw [← Nbq1010.out] at hx1021_4); (try rw [← Nbq1014.out] at hx1021_4); (try rw [← Nbq1022.out] at hx1021_4); (try rw [← Nbq1010.out] at hx1021_5); (try rw [← Nbq1014.out] at hx1021_5); (try rw [← Nbq1022.out] at hx1021_5); replace p1021 := eq_true p1021; replace q1021 := eq_true q1021)))
 (try simp only [← hl190002_1])
 go_roundg k1
 case measure => have := HK1.out; omega
 )
 rotate_left
 )
 rotate_right 2
 {
 case rel => exact ⟨(wrap64 (x3_1 + (wrap64 (((rd_T85 y190 x5_1).f1) - ((rd_T85 y190 x5_1).f0))))), (wrap64 (x4_1 + 1)), (wrap64 (x5_1 - 1)), (y190), (by first | rfl | (simp; done) | (simp [*]; done)), (by first | rfl | (simp; done) | (simp [*]; done)), (by first | rfl | (simp; done) | (simp [*]; done)), H', ⟨by have := HK1.out; omega⟩, ⟨by (try simp only [hl190002_1]); (with_reducible repeat (first | apply Kd.R_alloc | apply Kd.R_drewN | apply Kd.R_drew)); exact HO_190002.out⟩, ⟨by (try simp only [hl190002_1]); (with_reducible repeat (first | refine blk_drewN ?_ _ | refine blk_drew ?_ | refine blk_alloc ?_ _)); exact BK189.out⟩, ⟨by repeat (first | (with_reducible first | exact HK.out | apply Kept.alloc | apply Kept.drewN | apply Kept.drew | refine Kept.setCell ?_ (.inr GW189.out) _) | exact HK.out)⟩, ⟨wB⟩⟩
 }
 {
 case rel => exact ⟨(wrap64 (x3_1 + (wrap64 (((rd_T85 y190 x5_1).f1) - ((rd_T85 y190 x5_1).f0))))), (x4_1), (wrap64 (x5_1 - 1)), (y190), (by first | rfl | (simp; done) | (simp [*]; done)), (by first | rfl | (simp; done) | (simp [*]; done)), (by first | rfl | (simp; done) | (simp [*]; done)), H', ⟨by have := HK1.out; omega⟩, ⟨by (try simp only [hl190002_1]); (with_reducible repeat (first | apply Kd.R_alloc | apply Kd.R_drewN | apply Kd.R_drew)); exact HO_190002.out⟩, ⟨by (try simp only [hl190002_1]); (with_reducible repeat (first | refine blk_drewN ?_ _ | refine blk_drew ?_ | refine blk_alloc ?_ _)); exact BK189.out⟩, ⟨by repeat (first | (with_reducible first | exact HK.out | apply Kept.alloc | apply Kept.drewN | apply Kept.drew | refine Kept.setCell ?_ (.inr GW189.out) _) | exact HK.out)⟩, ⟨wB⟩⟩
 }
 {
 (try rw [← Nbq1010.out] at hx1006_5)
 (try rw [← Nbq1014.out] at hx1006_5)
 replace p1006 := eq_true p1006
 replace q1006 := eq_true q1006
 have p1007 : 0 ≤ (x5_1 : Int) := of_decide_eq_true (by first | (with_reducible assumption) | assumption)
 have q1007 : (x5_1 : Int) < ((x190002_1.length : Int) : Int) := of_decide_eq_true (by first | (with_reducible assumption) | assumption)
 obtain ⟨ce1007, hcl1007, hM1007, hcc1007, hfr1007⟩ := Kd.R_elem HO_190002.out z85 (x5_1 : Int) p1007 q1007
 obtain rfl := k85_openM hM1007
 have hx1007_0 : wr.cell? ⟨go1006, (x5_1 : Int).toNat * 6, none⟩ = some (.int .i64 ((rd_T85 x190002_1 x5_1).f0)) := hcc1007 0 _ rfl
 have hx1007_1 : wr.cell? ⟨go1006, (x5_1 : Int).toNat * 6 + 1, none⟩ = some (.int .i64 ((rd_T85 x190002_1 x5_1).f1)) := hcc1007 1 _ rfl
 have hx1007_2 : wr.cell? ⟨go1006, (x5_1 : Int).toNat * 6 + 2, none⟩ = some (.int .i64 ((rd_T85 x190002_1 x5_1).f2)) := hcc1007 2 _ rfl
 have hx1007_3 : wr.cell? ⟨go1006, (x5_1 : Int).toNat * 6 + 3, none⟩ = some (.int .i64 ((rd_T85 x190002_1 x5_1).f3)) := hcc1007 3 _ rfl
 have hx1007_4 : wr.cell? ⟨go1006, (x5_1 : Int).toNat * 6 + 4, none⟩ = some (.bool ((rd_T85 x190002_1 x5_1).f4)) := hcc1007 4 _ rfl
 have hx1007_5 : wr.cell? ⟨go1006, (x5_1 : Int).toNat * 6 + 5, none⟩ = some (.bool ((rd_T85 x190002_1 x5_1).f5)) := hcc1007 5 _ rfl
 have hf1007_0 : wr.frozen? ⟨go1006, (x5_1 : Int).toNat * 6, none⟩ = false := hfr1007 0
 have hf1007_1 : wr.frozen? ⟨go1006, (x5_1 : Int).toNat * 6 + 1, none⟩ = false := hfr1007 1
 have hf1007_2 : wr.frozen? ⟨go1006, (x5_1 : Int).toNat * 6 + 2, none⟩ = false := hfr1007 2
 have hf1007_3 : wr.frozen? ⟨go1006, (x5_1 : Int).toNat * 6 + 3, none⟩ = false := hfr1007 3
 have hf1007_4 : wr.frozen? ⟨go1006, (x5_1 : Int).toNat * 6 + 4, none⟩ = false := hfr1007 4
 have hf1007_5 : wr.frozen? ⟨go1006, (x5_1 : Int).toNat * 6 + 5, none⟩ = false := hfr1007 5
 clear hcl1007 hcc1007 hfr1007 hM1007
 (try rw [← Nbq1010.out] at hx1007_4)
 (try rw [← Nbq1014.out] at hx1007_4)
 (try rw [← Nbq1010.out] at hx1007_5)
 (try rw [← Nbq1014.out] at hx1007_5)
 replace p1007 := eq_true p1007
 replace q1007 := eq_true q1007
 have p1009 : 0 ≤ (x5_1 : Int) := of_decide_eq_true (by first | (with_reducible assumption) | assumption)
 have q1009 : (x5_1 : Int) < ((x190002_1.length : Int) : Int) := of_decide_eq_true (by first | (with_reducible assumption) | assumption)
 obtain ⟨ce1009, hcl1009, hM1009, hcc1009, hfr1009⟩ := Kd.R_elem HO_190002.out z85 (x5_1 : Int) p1009 q1009
 obtain rfl := k85_openM hM1009
 have hx1009_0 : wr.cell? ⟨go1006, (x5_1 : Int).toNat * 6, none⟩ = some (.int .i64 ((rd_T85 x190002_1 x5_1).f0)) := hcc1009 0 _ rfl
 have hx1009_1 : wr.cell? ⟨go1006, (x5_1 : Int).toNat * 6 + 1, none⟩ = some (.int .i64 ((rd_T85 x190002_1 x5_1).f1)) := hcc1009 1 _ rfl
 have hx1009_2 : wr.cell? ⟨go1006, (x5_1 : Int).toNat * 6 + 2, none⟩ = some (.int .i64 ((rd_T85 x190002_1 x5_1).f2)) := hcc1009 2 _ rfl
 have hx1009_3 : wr.cell? ⟨go1006, (x5_1 : Int).toNat * 6 + 3, none⟩ = some (.int .i64 ((rd_T85 x190002_1 x5_1).f3)) := hcc1009 3 _ rfl
 have hx1009_4 : wr.cell? ⟨go1006, (x5_1 : Int).toNat * 6 + 4, none⟩ = some (.bool ((rd_T85 x190002_1 x5_1).f4)) := hcc1009 4 _ rfl
 have hx1009_5 : wr.cell? ⟨go1006, (x5_1 : Int).toNat * 6 + 5, none⟩ = some (.bool ((rd_T85 x190002_1 x5_1).f5)) := hcc1009 5 _ rfl
 have hf1009_0 : wr.frozen? ⟨go1006, (x5_1 : Int).toNat * 6, none⟩ = false := hfr1009 0
 have hf1009_1 : wr.frozen? ⟨go1006, (x5_1 : Int).toNat * 6 + 1, none⟩ = false := hfr1009 1
 have hf1009_2 : wr.frozen? ⟨go1006, (x5_1 : Int).toNat * 6 + 2, none⟩ = false := hfr1009 2
 have hf1009_3 : wr.frozen? ⟨go1006, (x5_1 : Int).toNat * 6 + 3, none⟩ = false := hfr1009 3
 have hf1009_4 : wr.frozen? ⟨go1006, (x5_1 : Int).toNat * 6 + 4, none⟩ = false := hfr1009 4
 have hf1009_5 : wr.frozen? ⟨go1006, (x5_1 : Int).toNat * 6 + 5, none⟩ = false := hfr1009 5
 clear hcl1009 hcc1009 hfr1009 hM1009
 (try rw [← Nbq1010.out] at hx1009_4)
 (try rw [← Nbq1014.out] at hx1009_4)
 (try rw [← Nbq1010.out] at hx1009_5)
 (try rw [← Nbq1014.out] at hx1009_5)
 replace p1009 := eq_true p1009
 replace q1009 := eq_true q1009
 have p1013 : 0 ≤ (x5_1 : Int) := of_decide_eq_true (by first | (with_reducible assumption) | assumption)
 have q1013 : (x5_1 : Int) < ((x190002_1.length : Int) : Int) := of_decide_eq_true (by first | (with_reducible assumption) | assumption)
 obtain ⟨ce1013, hcl1013, hM1013, hcc1013, hfr1013⟩ := Kd.R_elem HO_190002.out z85 (x5_1 : Int) p1013 q1013
 obtain rfl := k85_openM hM1013
 have hx1013_0 : wr.cell? ⟨go1006, (x5_1 : Int).toNat * 6, none⟩ = some (.int .i64 ((rd_T85 x190002_1 x5_1).f0)) := hcc1013 0 _ rfl
 have hx1013_1 : wr.cell? ⟨go1006, (x5_1 : Int).toNat * 6 + 1, none⟩ = some (.int .i64 ((rd_T85 x190002_1 x5_1).f1)) := hcc1013 1 _ rfl
 have hx1013_2 : wr.cell? ⟨go1006, (x5_1 : Int).toNat * 6 + 2, none⟩ = some (.int .i64 ((rd_T85 x190002_1 x5_1).f2)) := hcc1013 2 _ rfl
 have hx1013_3 : wr.cell? ⟨go1006, (x5_1 : Int).toNat * 6 + 3, none⟩ = some (.int .i64 ((rd_T85 x190002_1 x5_1).f3)) := hcc1013 3 _ rfl
 have hx1013_4 : wr.cell? ⟨go1006, (x5_1 : Int).toNat * 6 + 4, none⟩ = some (.bool ((rd_T85 x190002_1 x5_1).f4)) := hcc1013 4 _ rfl
 have hx1013_5 : wr.cell? ⟨go1006, (x5_1 : Int).toNat * 6 + 5, none⟩ = some (.bool ((rd_T85 x190002_1 x5_1).f5)) := hcc1013 5 _ rfl
 have hf1013_0 : wr.frozen? ⟨go1006, (x5_1 : Int).toNat * 6, none⟩ = false := hfr1013 0
 have hf1013_1 : wr.frozen? ⟨go1006, (x5_1 : Int).toNat * 6 + 1, none⟩ = false := hfr1013 1
 have hf1013_2 : wr.frozen? ⟨go1006, (x5_1 : Int).toNat * 6 + 2, none⟩ = false := hfr1013 2
 have hf1013_3 : wr.frozen? ⟨go1006, (x5_1 : Int).toNat * 6 + 3, none⟩ = false := hfr1013 3
 have hf1013_4 : wr.frozen? ⟨go1006, (x5_1 : Int).toNat * 6 + 4, none⟩ = false := hfr1013 4
 have hf1013_5 : wr.frozen? ⟨go1006, (x5_1 : Int).toNat * 6 + 5, none⟩ = false := hfr1013 5
 clear hcl1013 hcc1013 hfr1013 hM1013
 (try rw [← Nbq1010.out] at hx1013_4)
 (try rw [← Nbq1014.out] at hx1013_4)
 (try rw [← Nbq1010.out] at hx1013_5)
 (try rw [← Nbq1014.out] at hx1013_5)
 replace p1013 := eq_true p1013
 replace q1013 := eq_true q1013
 have p1024 : 0 ≤ (x5_1 : Int) := of_decide_eq_true (by first | (with_reducible assumption) | assumption)
 have q1024 : (x5_1 : Int) < ((x190002_1.length : Int) : Int) := of_decide_eq_true (by first | (with_reducible assumption) | assumption)
 obtain ⟨ce1024, hcl1024, hM1024, hcc1024, hfr1024⟩ := Kd.R_elem HO_190002.out z85 (x5_1 : Int) p1024 q1024
 obtain rfl := k85_openM hM1024
 have hx1024_0 : wr.cell? ⟨go1006, (x5_1 : Int).toNat * 6, none⟩ = some (.int .i64 ((rd_T85 x190002_1 x5_1).f0)) := hcc1024 0 _ rfl
 have hx1024_1 : wr.cell? ⟨go1006, (x5_1 : Int).toNat * 6 + 1, none⟩ = some (.int .i64 ((rd_T85 x190002_1 x5_1).f1)) := hcc1024 1 _ rfl
 have hx1024_2 : wr.cell? ⟨go1006, (x5_1 : Int).toNat * 6 + 2, none⟩ = some (.int .i64 ((rd_T85 x190002_1 x5_1).f2)) := hcc1024 2 _ rfl
 have hx1024_3 : wr.cell? ⟨go1006, (x5_1 : Int).toNat * 6 + 3, none⟩ = some (.int .i64 ((rd_T85 x190002_1 x5_1).f3)) := hcc1024 3 _ rfl
 have hx1024_4 : wr.cell? ⟨go1006, (x5_1 : Int).toNat * 6 + 4, none⟩ = some (.bool ((rd_T85 x190002_1 x5_1).f4)) := hcc1024 4 _ rfl
 have hx1024_5 : wr.cell? ⟨go1006, (x5_1 : Int).toNat * 6 + 5, none⟩ = some (.bool ((rd_T85 x190002_1 x5_1).f5)) := hcc1024 5 _ rfl
 have hf1024_0 : wr.frozen? ⟨go1006, (x5_1 : Int).toNat * 6, none⟩ = false := hfr1024 0
 have hf1024_1 : wr.frozen? ⟨go1006, (x5_1 : Int).toNat * 6 + 1, none⟩ = false := hfr1024 1
 have hf1024_2 : wr.frozen? ⟨go1006, (x5_1 : Int).toNat * 6 + 2, none⟩ = false := hfr1024 2
 have hf1024_3 : wr.frozen? ⟨go1006, (x5_1 : Int).toNat * 6 + 3, none⟩ = false := hfr1024 3
 have hf1024_4 : wr.frozen? ⟨go1006, (x5_1 : Int).toNat * 6 + 4, none⟩ = false := hfr1024 4
 have hf1024_5 : wr.frozen? ⟨go1006, (x5_1 : Int).toNat * 6 + 5, none⟩ = false := hfr1024 5
 clear hcl1024 hcc1024 hfr1024 hM1024
 (try rw [← Nbq1010.out] at hx1024_4)
 (try rw [← Nbq1014.out] at hx1024_4)
 (try rw [← Nbq1010.out] at hx1024_5)
 (try rw [← Nbq1014.out] at hx1024_5)
 replace p1024 := eq_true p1024
 replace q1024 := eq_true q1024
 go_wp2
 repeat (go_quiet (fail); try go_wp2)
 (try simp only [← hl190002_1])
 go_roundg k1
 case measure => have := HK1.out; omega
 case rel => exact ⟨(x3_1), (x4_1), (wrap64 (x5_1 - 1)), (x190002_1), (by first | rfl | (simp; done) | (simp [*]; done)), (by first | rfl | (simp; done) | (simp [*]; done)), (by first | rfl | (simp; done) | (simp [*]; done)), H', ⟨by have := HK1.out; omega⟩, ⟨by (try simp only [hl190002_1]); (with_reducible repeat (first | apply Kd.R_alloc | apply Kd.R_drewN | apply Kd.R_drew)); exact HO_190002.out⟩, ⟨by (try simp only [hl190002_1]); (with_reducible repeat (first | refine blk_drewN ?_ _ | refine blk_drew ?_ | refine blk_alloc ?_ _)); exact BK189.out⟩, ⟨by repeat (first | (with_reducible first | exact HK.out | apply Kept.alloc | apply Kept.drewN | apply Kept.drew | refine Kept.setCell ?_ (.inr GW189.out) _) | exact HK.out)⟩, ⟨wB⟩⟩
 }
 iterate 2 (
 focus (
 (try rw [← Nbq1026.out] at hx1006_4)
 (try rw [← Nbq1026.out] at hx1006_5)
 replace p1006 := eq_true p1006
 replace q1006 := eq_true q1006
 have p1007 : 0 ≤ (x5_1 : Int) := of_decide_eq_true (by first | (with_reducible assumption) | assumption)
 have q1007 : (x5_1 : Int) < ((x190002_1.length : Int) : Int) := of_decide_eq_true (by first | (with_reducible assumption) | assumption)
 obtain ⟨ce1007, hcl1007, hM1007, hcc1007, hfr1007⟩ := Kd.R_elem HO_190002.out z85 (x5_1 : Int) p1007 q1007
 obtain rfl := k85_openM hM1007
 have hx1007_0 : wr.cell? ⟨go1006, (x5_1 : Int).toNat * 6, none⟩ = some (.int .i64 ((rd_T85 x190002_1 x5_1).f0)) := hcc1007 0 _ rfl
 have hx1007_1 : wr.cell? ⟨go1006, (x5_1 : Int).toNat * 6 + 1, none⟩ = some (.int .i64 ((rd_T85 x190002_1 x5_1).f1)) := hcc1007 1 _ rfl
 have hx1007_2 : wr.cell? ⟨go1006, (x5_1 : Int).toNat * 6 + 2, none⟩ = some (.int .i64 ((rd_T85 x190002_1 x5_1).f2)) := hcc1007 2 _ rfl
 have hx1007_3 : wr.cell? ⟨go1006, (x5_1 : Int).toNat * 6 + 3, none⟩ = some (.int .i64 ((rd_T85 x190002_1 x5_1).f3)) := hcc1007 3 _ rfl
 have hx1007_4 : wr.cell? ⟨go1006, (x5_1 : Int).toNat * 6 + 4, none⟩ = some (.bool ((rd_T85 x190002_1 x5_1).f4)) := hcc1007 4 _ rfl
 have hx1007_5 : wr.cell? ⟨go1006, (x5_1 : Int).toNat * 6 + 5, none⟩ = some (.bool ((rd_T85 x190002_1 x5_1).f5)) := hcc1007 5 _ rfl
 have hf1007_0 : wr.frozen? ⟨go1006, (x5_1 : Int).toNat * 6, none⟩ = false := hfr1007 0
 have hf1007_1 : wr.frozen? ⟨go1006, (x5_1 : Int).toNat * 6 + 1, none⟩ = false := hfr1007 1
 have hf1007_2 : wr.frozen? ⟨go1006, (x5_1 : Int).toNat * 6 + 2, none⟩ = false := hfr1007 2
 have hf1007_3 : wr.frozen? ⟨go1006, (x5_1 : Int).toNat * 6 + 3, none⟩ = false := hfr1007 3
 have hf1007_4 : wr.frozen? ⟨go1006, (x5_1 : Int).toNat * 6 + 4, none⟩ = false := hfr1007 4
 have hf1007_5 : wr.frozen? ⟨go1006, (x5_1 : Int).toNat * 6 + 5, none⟩ = false := hfr1007 5
 clear hcl1007 hcc1007 hfr1007 hM1007
 (try rw [← Nbq1026.out] at hx1007_4)
 (try rw [← Nbq1026.out] at hx1007_5)
 replace p1007 := eq_true p1007
 replace q1007 := eq_true q1007
 have p1025 : 0 ≤ (x5_1 : Int) := of_decide_eq_true (by first | (with_reducible assumption) | assumption)
 have q1025 : (x5_1 : Int) < ((x190002_1.length : Int) : Int) := of_decide_eq_true (by first | (with_reducible assumption) | assumption)
 obtain ⟨ce1025, hcl1025, hM1025, hcc1025, hfr1025⟩ := Kd.R_elem HO_190002.out z85 (x5_1 : Int) p1025 q1025
 obtain rfl := k85_openM hM1025
 have hx1025_0 : wr.cell? ⟨go1006, (x5_1 : Int).toNat * 6, none⟩ = some (.int .i64 ((rd_T85 x190002_1 x5_1).f0)) := hcc1025 0 _ rfl
 have hx1025_1 : wr.cell? ⟨go1006, (x5_1 : Int).toNat * 6 + 1, none⟩ = some (.int .i64 ((rd_T85 x190002_1 x5_1).f1)) := hcc1025 1 _ rfl
 have hx1025_2 : wr.cell? ⟨go1006, (x5_1 : Int).toNat * 6 + 2, none⟩ = some (.int .i64 ((rd_T85 x190002_1 x5_1).f2)) := hcc1025 2 _ rfl
 have hx1025_3 : wr.cell? ⟨go1006, (x5_1 : Int).toNat * 6 + 3, none⟩ = some (.int .i64 ((rd_T85 x190002_1 x5_1).f3)) := hcc1025 3 _ rfl
 have hx1025_4 : wr.cell? ⟨go1006, (x5_1 : Int).toNat * 6 + 4, none⟩ = some (.bool ((rd_T85 x190002_1 x5_1).f4)) := hcc1025 4 _ rfl
 have hx1025_5 : wr.cell? ⟨go1006, (x5_1 : Int).toNat * 6 + 5, none⟩ = some (.bool ((rd_T85 x190002_1 x5_1).f5)) := hcc1025 5 _ rfl
 have hf1025_0 : wr.frozen? ⟨go1006, (x5_1 : Int).toNat * 6, none⟩ = false := hfr1025 0
 have hf1025_1 : wr.frozen? ⟨go1006, (x5_1 : Int).toNat * 6 + 1, none⟩ = false := hfr1025 1
 have hf1025_2 : wr.frozen? ⟨go1006, (x5_1 : Int).toNat * 6 + 2, none⟩ = false := hfr1025 2
 have hf1025_3 : wr.frozen? ⟨go1006, (x5_1 : Int).toNat * 6 + 3, none⟩ = false := hfr1025 3
 have hf1025_4 : wr.frozen? ⟨go1006, (x5_1 : Int).toNat * 6 + 4, none⟩ = false := hfr1025 4
 have hf1025_5 : wr.frozen? ⟨go1006, (x5_1 : Int).toNat * 6 + 5, none⟩ = false := hfr1025 5
 clear hcl1025 hcc1025 hfr1025 hM1025
 (try rw [← Nbq1026.out] at hx1025_4)
 (try rw [← Nbq1026.out] at hx1025_5)
 replace p1025 := eq_true p1025
 replace q1025 := eq_true q1025
 go_wp2
 repeat (go_quiet (fail); try go_wp2)
 (try simp only [← hl190002_1])
 go_roundg k1
 case measure => have := HK1.out; omega
 )
 rotate_left
 )
 rotate_right 2
 {
 case rel => exact ⟨(x3_1), (wrap64 (x4_1 + 1)), (wrap64 (x5_1 - 1)), (x190002_1), (by first | rfl | (simp; done) | (simp [*]; done)), (by first | rfl | (simp; done) | (simp [*]; done)), (by first | rfl | (simp; done) | (simp [*]; done)), H', ⟨by have := HK1.out; omega⟩, ⟨by (try simp only [hl190002_1]); (with_reducible repeat (first | apply Kd.R_alloc | apply Kd.R_drewN | apply Kd.R_drew)); exact HO_190002.out⟩, ⟨by (try simp only [hl190002_1]); (with_reducible repeat (first | refine blk_drewN ?_ _ | refine blk_drew ?_ | refine blk_alloc ?_ _)); exact BK189.out⟩, ⟨by repeat (first | (with_reducible first | exact HK.out | apply Kept.alloc | apply Kept.drewN | apply Kept.drew | refine Kept.setCell ?_ (.inr GW189.out) _) | exact HK.out)⟩, ⟨wB⟩⟩
 }
 {
 case rel => exact ⟨(x3_1), (x4_1), (wrap64 (x5_1 - 1)), (x190002_1), (by first | rfl | (simp; done) | (simp [*]; done)), (by first | rfl | (simp; done) | (simp [*]; done)), (by first | rfl | (simp; done) | (simp [*]; done)), H', ⟨by have := HK1.out; omega⟩, ⟨by (try simp only [hl190002_1]); (with_reducible repeat (first | apply Kd.R_alloc | apply Kd.R_drewN | apply Kd.R_drew)); exact HO_190002.out⟩, ⟨by (try simp only [hl190002_1]); (with_reducible repeat (first | refine blk_drewN ?_ _ | refine blk_drew ?_ | refine blk_alloc ?_ _)); exact BK189.out⟩, ⟨by repeat (first | (with_reducible first | exact HK.out | apply Kept.alloc | apply Kept.drewN | apply Kept.drew | refine Kept.setCell ?_ (.inr GW189.out) _) | exact HK.out)⟩, ⟨wB⟩⟩
 }
 {
 go_wp2
 repeat (go_quiet (fail); try go_wp2)
 go_ret
 exact ⟨by first | rfl | (simp [errW_none, errW_some] <;> rfl) | (simp [*, errW_none, errW_some] <;> rfl), (by first | exact (Rh HO_190002) | (simp only [hl190002_1]; exact (Rh HO_190002))), wB, by repeat (first | (with_reducible first | exact HK.out | apply Kept.alloc | apply Kept.drewN | apply Kept.drew | refine Kept.setCell ?_ (.inr GW189.out) _) | exact HK.out)⟩
 }
 }
 )

/-! ### impl_BoardLose: function 48 -/
def impl_BoardLose.f (k : Nat) (a0_0 : Int) (a0_1 : Int) (l0_2 : List (S85)) : Option (Int × Int × (List (S85)) × Int × Int) := (impl_okBoard.f k a0_0 a0_1 l0_2).bind fun t193 => (if t193 = true then ((impl_ownBoard.f a0_0 a0_1 l0_2).bind fun bt194 => ((impl_board_lose.f k bt194.1 bt194.2.1 bt194.2.2).bind fun bt200 => (some (bt194.1, bt194.2.1, bt200.2, bt200.1, 0)))) else (some (0, 0, ([] : List (S85)), 0, 1)))
theorem impl_BoardLose.mono : ∀ a0 a1 a2 k, LeO (impl_BoardLose.f k a0 a1 a2) (impl_BoardLose.f (k + 1) a0 a1 a2) := by
 intro a0 a1 a2 k
 unfold impl_BoardLose.f
 repeat' first
     | (with_reducible exact impl_board_lose.mono _ _ _ _)
     | (with_reducible exact impl_okBoard.mono _ _ _ _)
     | (with_reducible exact LeO.refl _)
     | (with_reducible exact LeO.none _)
     | (with_reducible refine LeO.ite ?_ ?_)
     | (with_reducible refine LeO.bind ?_ (fun _ => ?_))
     | exact impl_board_lose.mono _ _ _ _
     | exact impl_okBoard.mono _ _ _ _
     | exact LeO.none _
     | refine LeO.ite ?_ ?_
     | refine LeO.bind ?_ (fun _ => ?_)
set_option maxHeartbeats 60000000 in
set_option maxRecDepth 100000 in
theorem impl_BoardLose.calls (k : Nat) (a0_0 : Int) (a0_1 : Int) (A0_2 : Option Addr) (c0_2 : Nat) (l0_2 : List (S85)) (r1 : Int) (r2 : Int) (r3 : List (S85)) (r4 : Int) (r5 : Int) (w : World) (hr0_2 : Kd.C k85 w A0_2 l0_2.length l0_2) (hc0_2 : l0_2.length ≤ c0_2) (h : impl_BoardLose.f k a0_0 a0_1 l0_2 = some (r1, r2, r3, r4, r5)) :
 Calls Try.prog 48 #[.agg #[.int .i64 a0_0, .int .i64 a0_1, .slice A0_2 l0_2.length c0_2]] w fun e w' => ∃ v2_ : Value, e = .returned (.tuple #[.agg #[.int .i64 r1, .int .i64 r2, v2_], .int .i64 r4, .int .i64 r5]) ∧ Kd.R k85 85 w' w.heap.size (fun _ => True) v2_ r3 ∧ Below w.heap.size w w' := by
 have hu63 := Try.underlying63
 have hu126 := Try.underlying126
 have HR0_2 := Aside0.mk hr0_2
 have HC0_2 := Aside0.mk hc0_2
 clear hr0_2 hc0_2
 have HB := Aside0.mk (Below.refl w.heap.size w)
 have H : ((impl_okBoard.f k a0_0 a0_1 l0_2).bind fun t193 => (if t193 = true then ((impl_ownBoard.f a0_0 a0_1 l0_2).bind fun bt194 => ((impl_board_lose.f k bt194.1 bt194.2.1 bt194.2.2).bind fun bt200 => (some (bt194.1, bt194.2.1, bt200.2, bt200.1, 0)))) else (some (0, 0, ([] : List (S85)), 0, 1)))) = some (r1, r2, r3, r4, r5) := h
 clear h
 replace H := Option.bind_eq_some_iff.mp H
 obtain ⟨t193, A20, H⟩ := H
 replace H : (if t193 = true then ((impl_ownBoard.f a0_0 a0_1 l0_2).bind fun bt194 => ((impl_board_lose.f k bt194.1 bt194.2.1 bt194.2.2).bind fun bt200 => (some (bt194.1, bt194.2.1, bt200.2, bt200.1, 0)))) else (some (0, 0, ([] : List (S85)), 0, 1))) = some (r1, r2, r3, r4, r5) := H
 have A2 := Aside0.mk A20
 clear A20
 by_cases c3 : t193 = true
 {
 subst c3
 have H1 : ((impl_ownBoard.f a0_0 a0_1 l0_2).bind fun bt194 => ((impl_board_lose.f k bt194.1 bt194.2.1 bt194.2.2).bind fun bt200 => (some (bt194.1, bt194.2.1, bt200.2, bt200.1, 0)))) = some (r1, r2, r3, r4, r5) := by rw [if_pos rfl] at H; exact H
 clear H
 have H := H1
 clear H1
 replace H := Option.bind_eq_some_iff.mp H
 obtain ⟨⟨t194, t195, t196⟩, A40, H⟩ := H
 replace H : ((impl_board_lose.f k t194 t195 t196).bind fun bt200 => (some (t194, t195, bt200.2, bt200.1, 0))) = some (r1, r2, r3, r4, r5) := H
 have A4 := Aside0.mk A40
 clear A40
 replace H := Option.bind_eq_some_iff.mp H
 obtain ⟨⟨t200, t201⟩, A50, H⟩ := H
 replace H : (some (t194, t195, t201, t200, 0)) = some (r1, r2, r3, r4, r5) := H
 have A5 := Aside0.mk A50
 clear A50
 simp only [Option.some.injEq, Prod.mk.injEq] at H
 obtain ⟨rfl, rfl, rfl, rfl, rfl⟩ := H
 go_enter Try.func48, Try.ntmps48
 go_wp2_with (first | ((with_reducible refine gate_dst (N := 1) rfl ?_); refine box_event ?hg (N := 1) ?hd (cs := #[.int .i64 a0_0, .int .i64 a0_1, .slice A0_2 l0_2.length c0_2]) (t := 63) ?hr ?_; (case hd => rfl); (case hg => rfl); (case hr => first | (go_simp; done) | (go_simp; rfl)); intro gb191 hg w1001 hbox hb; have n0_ := Aside0.mk (below_step wB hb); have n1_ := Aside0.mk (hbox); have n2_ := Aside0.mk ((by rw [hg]; exact (below_size wB) : w.heap.size ≤ gb191)); have n3_ := Aside0.mk ((by rw [hg]; exact (below_size wB) : w.heap.size ≤ gb191)); clear HB; have HB := n0_; have BK191 := n1_; have GW191 := n2_; have GE191 := n3_; clear n0_ n1_ n2_ n3_; clear hb hbox hg) | ((with_reducible refine gate_dst (N := 2) rfl ?_); refine box_event ?hg (N := 2) ?hd (cs := #[.int .i64 0, .int .i64 0, .slice none 0 0]) (t := 63) ?hr ?_; (case hd => rfl); (case hg => rfl); (case hr => first | (go_simp; done) | (go_simp; rfl)); intro gb192 hg w1002 hbox hb; have n0_ := Aside0.mk (blk_below (Bh BK191) hb); have n1_ := Aside0.mk (below_step wB hb); have n2_ := Aside0.mk (hbox); have n3_ := Aside0.mk ((by rw [hg]; exact (below_size wB) : w.heap.size ≤ gb192)); have n4_ := Aside0.mk ((by rw [hg]; exact (below_size wB) : w.heap.size ≤ gb192)); have n5_ := Aside0.mk ((by rw [hg]; exact Nat.ne_of_lt (blk_lt (Bh BK191)) : gb191 ≠ gb192)); have n6_ := Aside0.mk ((by rw [hg]; exact Nat.ne_of_gt (blk_lt (Bh BK191)) : gb192 ≠ gb191)); clear BK191; clear HB; have BK191 := n0_; have HB := n1_; have BK192 := n2_; have GW192 := n3_; have GE192 := n4_; have NB191_192 := n5_; have NB192_191 := n6_; clear n0_ n1_ n2_ n3_ n4_ n5_ n6_; clear hb hbox hg; have hnb1003 := NB191_192.out; have hnc1003 := NB192_191.out; obtain ⟨⟨hcz1004_0, hcz1004_1, hcz1004_2⟩, hfz1004_0, hfz1004_1, hfz1004_2⟩ := cells3 BK191.out) | ((with_reducible refine gate_callee (f := 86) rfl ?_); refine goesL_ (some 8) rfl rfl Try.func86 (by kernel_rfl) rfl #[.agg #[.int .i64 a0_0, .int .i64 a0_1, .slice A0_2 l0_2.length c0_2]] rfl wT ?_; (with_reducible refine (impl_okBoard.calls k a0_0 a0_1 _ _ l0_2 true _ ?side1 ?side2 A2.out).mono ?_); (case side1 => exact Kd.C_below HR0_2.out wB); (case side2 => exact HC0_2.out); rintro e w1005 ⟨rfl, hb⟩; refine ⟨_, rfl, ?_⟩; have n0_ := Aside0.mk (blk_below (Bh BK191) hb); have n1_ := Aside0.mk (blk_below (Bh BK192) hb); have n2_ := Aside0.mk (below_step wB hb); clear BK191; clear BK192; clear HB; have BK191 := n0_; have BK192 := n1_; have HB := n2_; clear n0_ n1_ n2_; (try clear hb); (try clear hb2); (try clear hk); (try clear hi); obtain ⟨⟨hcz1006_0, hcz1006_1, hcz1006_2⟩, hfz1006_0, hfz1006_1, hfz1006_2⟩ := cells3 BK191.out) | ((with_reducible refine gate_callee (f := 87) rfl ?_); refine goesL_ (some 12) rfl rfl Try.func87 (by kernel_rfl) rfl #[.agg #[.int .i64 a0_0, .int .i64 a0_1, .slice A0_2 l0_2.length c0_2]] rfl wT ?_; (with_reducible refine (impl_ownBoard.calls a0_0 a0_1 _ _ l0_2 t194 t195 t196 _ ?side1 ?side2 A4.out).mono ?_); (case side1 => exact Kd.C_below HR0_2.out wB); (case side2 => exact HC0_2.out); rintro e w1007 ⟨v197, rfl, ho0, hb⟩; refine ⟨_, rfl, ?_⟩; have n0_ := Aside0.mk (Kd.R_lower ho0 (below_size wB)); have n1_ := Aside0.mk (blk_below (Bh BK191) hb); have n2_ := Aside0.mk (blk_below (Bh BK192) hb); have n3_ := Aside0.mk (below_step wB hb); clear BK191; clear BK192; clear HB; have HO198 := n0_; have BK191 := n1_; have BK192 := n2_; have HB := n3_; clear n0_ n1_ n2_ n3_; (try clear hb); (try clear hb2); (try clear hk); (try clear hi); (try clear ho0); obtain ⟨Ao1008, co1008, eo1008⟩ := Kd.R_slice HO198.out; subst eo1008) | ((with_reducible refine gate_dst (N := 5) rfl ?_); refine box_event ?hg (N := 5) ?hd (cs := #[.int .i64 0, .int .i64 0, .slice none 0 0]) (t := 126) ?hr ?_; (case hd => rfl); (case hg => rfl); (case hr => first | (go_simp; done) | (go_simp; rfl)); intro gb199 hg w1009 hbox hb; have n0_ := Aside0.mk (Kd.R_below (Rh HO198) hb); have n1_ := Aside0.mk (blk_below (Bh BK191) hb); have n2_ := Aside0.mk (blk_below (Bh BK192) hb); have n3_ := Aside0.mk (below_step wB hb); have n4_ := Aside0.mk (hbox); have n5_ := Aside0.mk ((by rw [hg]; exact (below_size wB) : w.heap.size ≤ gb199)); have n6_ := Aside0.mk ((by rw [hg]; exact (below_size wB) : w.heap.size ≤ gb199)); have n7_ := Aside0.mk ((by rw [hg]; exact Nat.ne_of_lt (blk_lt (Bh BK191)) : gb191 ≠ gb199)); have n8_ := Aside0.mk ((by rw [hg]; exact Nat.ne_of_gt (blk_lt (Bh BK191)) : gb199 ≠ gb191)); have n9_ := Aside0.mk ((by rw [hg]; exact Nat.ne_of_lt (blk_lt (Bh BK192)) : gb192 ≠ gb199)); have n10_ := Aside0.mk ((by rw [hg]; exact Nat.ne_of_gt (blk_lt (Bh BK192)) : gb199 ≠ gb192)); clear HO198; clear BK191; clear BK192; clear HB; have HO198 := n0_; have BK191 := n1_; have BK192 := n2_; have HB := n3_; have BK199 := n4_; have GW199 := n5_; have GE199 := n6_; have NB191_199 := n7_; have NB199_191 := n8_; have NB192_199 := n9_; have NB199_192 := n10_; clear n0_ n1_ n2_ n3_ n4_ n5_ n6_ n7_ n8_ n9_ n10_; clear hb hbox hg; have hnb1010 := NB199_191.out; have hnc1010 := NB191_199.out; have hnb1011 := NB199_192.out; have hnc1011 := NB192_199.out; obtain ⟨⟨hcz1012_0, hcz1012_1, hcz1012_2⟩, hfz1012_0, hfz1012_1, hfz1012_2⟩ := cells3 BK199.out) | ((with_reducible refine gate_store (t := 126) (p := 5) rfl ?_); refine store_event (t := 126) (p := 5) (v := ?_) (w1 := (((w1009.setCell ⟨gb199, 0, none⟩ (.int .i64 t194)).setCell ⟨gb199, 1, none⟩ (.int .i64 t195)).setCell ⟨gb199, 2, none⟩ (.slice Ao1008 t196.length co1008))) ?hg ?ho ?hn ?hr ?_; (case ho => rfl); (case hg => rfl); (case hn => rfl); (case hr => first | (go_simp; done) | (go_simp; rfl)); intro w1013 hw; have n0_ : Aside0 (Kd.R k85 85 w1013 w.heap.size (fun _ => True) (.slice Ao1008 t196.length co1008) t196) := ⟨(by rw [hw]; exact (by (with_reducible repeat (first | apply Kd.R_alloc | apply Kd.R_drewN | apply Kd.R_drew)); exact Kd.R_mono (Kd.R_far (p := ⟨gb199, 2, none⟩) (Kd.R_far (p := ⟨gb199, 1, none⟩) (Kd.R_far (p := ⟨gb199, 0, none⟩) (Kd.R_types HO198.out BK199.out (by decide)) (fun _ hk => hk.2) (.int .i64 t194)) (fun _ hk => hk.2) (.int .i64 t195)) (fun _ hk => hk.2) (.slice Ao1008 t196.length co1008)) (fun _ hk => trivial)))⟩; have n1_ : Aside0 (w1013.heap[gb191]? = some (.cells #[.int .i64 a0_0, .int .i64 a0_1, .slice A0_2 l0_2.length c0_2] 63 (0, 0))) := ⟨(by rw [hw]; exact (by (with_reducible repeat (first | refine blk_drewN ?_ _ | refine blk_drew ?_ | refine blk_alloc ?_ _)); refine blk_far ?_ NB191_199.out _; (with_reducible repeat (first | refine blk_drewN ?_ _ | refine blk_drew ?_ | refine blk_alloc ?_ _)); refine blk_far ?_ NB191_199.out _; (with_reducible repeat (first | refine blk_drewN ?_ _ | refine blk_drew ?_ | refine blk_alloc ?_ _)); refine blk_far ?_ NB191_199.out _; (with_reducible repeat (first | refine blk_drewN ?_ _ | refine blk_drew ?_ | refine blk_alloc ?_ _)); exact BK191.out))⟩; have n2_ : Aside0 (w1013.heap[gb192]? = some (.cells #[.int .i64 0, .int .i64 0, .slice none 0 0] 63 (0, 0))) := ⟨(by rw [hw]; exact (by (with_reducible repeat (first | refine blk_drewN ?_ _ | refine blk_drew ?_ | refine blk_alloc ?_ _)); refine blk_far ?_ NB192_199.out _; (with_reducible repeat (first | refine blk_drewN ?_ _ | refine blk_drew ?_ | refine blk_alloc ?_ _)); refine blk_far ?_ NB192_199.out _; (with_reducible repeat (first | refine blk_drewN ?_ _ | refine blk_drew ?_ | refine blk_alloc ?_ _)); refine blk_far ?_ NB192_199.out _; (with_reducible repeat (first | refine blk_drewN ?_ _ | refine blk_drew ?_ | refine blk_alloc ?_ _)); exact BK192.out))⟩; have n3_ : Aside0 (w1013.heap[gb199]? = some (.cells #[.int .i64 t194, .int .i64 t195, .slice Ao1008 t196.length co1008] 126 (0, 0))) := ⟨(by rw [hw]; exact (by (with_reducible repeat (first | refine blk_drewN ?_ _ | refine blk_drew ?_ | refine blk_alloc ?_ _)); refine blk_put (cs := #[.int .i64 t194, .int .i64 t195, .slice none 0 0]) ?_ 2 _ rfl; (with_reducible repeat (first | refine blk_drewN ?_ _ | refine blk_drew ?_ | refine blk_alloc ?_ _)); refine blk_put (cs := #[.int .i64 t194, .int .i64 0, .slice none 0 0]) ?_ 1 _ rfl; (with_reducible repeat (first | refine blk_drewN ?_ _ | refine blk_drew ?_ | refine blk_alloc ?_ _)); refine blk_put (cs := #[.int .i64 0, .int .i64 0, .slice none 0 0]) ?_ 0 _ rfl; (with_reducible repeat (first | refine blk_drewN ?_ _ | refine blk_drew ?_ | refine blk_alloc ?_ _)); exact BK199.out))⟩; have n4_ : Aside0 (Below w.heap.size w w1013) := ⟨(by rw [hw]; exact wB)⟩; clear hw; clear HO198; clear BK191; clear BK192; clear BK199; clear HB; have HO198 := n0_; have BK191 := n1_; have BK192 := n2_; have BK199 := n3_; have HB := n4_; clear n0_ n1_ n2_ n3_ n4_) | ((with_reducible refine gate_callee (f := 109) rfl ?_); refine goesL_ (some 14) rfl rfl Try.func109 (by kernel_rfl) rfl #[.pointer (some ⟨gb199, 0, none⟩)] rfl wT ?_; (with_reducible refine (impl_board_lose.calls k gb199 t194 t195 (fun k_ => some k_ = (.slice Ao1008 t196.length co1008 : Value).ownBlock) (.slice Ao1008 t196.length co1008) t196 t200 t201 w _ ?side1 ?side2 ?side3 ?side4 A5.out).mono ?_); (case side1 => repeat (first | (with_reducible first | exact HB.out | apply below_alloc | apply pw_below_drewN | apply below_drew1 | refine below_set ?_ GE191.out | refine below_set ?_ GE192.out | refine below_set ?_ GE199.out) | exact HB.out)); (case side2 => exact Kd.R_tight rfl HO198.out); (case side3 => exact Bh BK199); (case side4 => exact GW199.out); rintro e w1014 ⟨rfl, hy0, hb, hkp⟩; refine ⟨_, rfl, ?_⟩; have n0_ := Aside0.mk (blk_kept (Bh BK191) hkp (fun hs_ => (fun e_ => (Kd.R_ne HO198.out BK191.out (by decide)) e_) hs_)); have n1_ := Aside0.mk (blk_kept (Bh BK192) hkp (fun hs_ => (fun e_ => (Kd.R_ne HO198.out BK192.out (by decide)) e_) hs_)); have n2_ := Aside0.mk (Kd.R_reok rfl hy0 (fun k_ e_ => HO198.out.1 k_ e_)); have n3_ := Aside0.mk (blk_kept (Bh BK199) hkp (fun hs_ => (fun e_ => (Kd.R_ne HO198.out BK199.out (by decide)) e_) hs_)); have n4_ := Aside0.mk (hb); clear BK191; clear BK192; clear HO198; clear BK199; clear HB; have BK191 := n0_; have BK192 := n1_; have HO198 := n2_; have BK199 := n3_; have HB := n4_; clear n0_ n1_ n2_ n3_ n4_; (try clear hb); (try clear hkp); (try clear hy0); obtain ⟨⟨hcz1015_0, hcz1015_1, hcz1015_2⟩, hfz1015_0, hfz1015_1, hfz1015_2⟩ := cells3 BK199.out; obtain ⟨⟨hcz1016_0, hcz1016_1, hcz1016_2⟩, hfz1016_0, hfz1016_1, hfz1016_2⟩ := cells3 BK192.out) | ((with_reducible refine gate_store (t := 63) (p := 2) rfl ?_); refine store_event (t := 63) (p := 2) (v := ?_) (w1 := (((w1014.setCell ⟨gb192, 0, none⟩ (.int .i64 t194)).setCell ⟨gb192, 1, none⟩ (.int .i64 t195)).setCell ⟨gb192, 2, none⟩ (.slice Ao1008 t196.length co1008))) ?hg ?ho ?hn ?hr ?_; (case ho => rfl); (case hg => rfl); (case hn => rfl); (case hr => first | (go_simp; done) | (go_simp; rfl)); intro w1017 hw; have n0_ : Aside0 (Kd.R k85 85 w1017 w.heap.size (fun _ => True) (.slice Ao1008 t196.length co1008) t201) := ⟨(by rw [hw]; exact (by (with_reducible repeat (first | apply Kd.R_alloc | apply Kd.R_drewN | apply Kd.R_drew)); exact Kd.R_mono (Kd.R_far (p := ⟨gb192, 2, none⟩) (Kd.R_far (p := ⟨gb192, 1, none⟩) (Kd.R_far (p := ⟨gb192, 0, none⟩) (Kd.R_types HO198.out BK192.out (by decide)) (fun _ hk => hk.2) (.int .i64 t194)) (fun _ hk => hk.2) (.int .i64 t195)) (fun _ hk => hk.2) (.slice Ao1008 t196.length co1008)) (fun _ hk => trivial)))⟩; have n1_ : Aside0 (w1017.heap[gb191]? = some (.cells #[.int .i64 a0_0, .int .i64 a0_1, .slice A0_2 l0_2.length c0_2] 63 (0, 0))) := ⟨(by rw [hw]; exact (by (with_reducible repeat (first | refine blk_drewN ?_ _ | refine blk_drew ?_ | refine blk_alloc ?_ _)); refine blk_far ?_ NB191_192.out _; (with_reducible repeat (first | refine blk_drewN ?_ _ | refine blk_drew ?_ | refine blk_alloc ?_ _)); refine blk_far ?_ NB191_192.out _; (with_reducible repeat (first | refine blk_drewN ?_ _ | refine blk_drew ?_ | refine blk_alloc ?_ _)); refine blk_far ?_ NB191_192.out _; (with_reducible repeat (first | refine blk_drewN ?_ _ | refine blk_drew ?_ | refine blk_alloc ?_ _)); exact BK191.out))⟩; have n2_ : Aside0 (w1017.heap[gb192]? = some (.cells #[.int .i64 t194, .int .i64 t195, .slice Ao1008 t196.length co1008] 63 (0, 0))) := ⟨(by rw [hw]; exact (by (with_reducible repeat (first | refine blk_drewN ?_ _ | refine blk_drew ?_ | refine blk_alloc ?_ _)); refine blk_put (cs := #[.int .i64 t194, .int .i64 t195, .slice none 0 0]) ?_ 2 _ rfl; (with_reducible repeat (first | refine blk_drewN ?_ _ | refine blk_drew ?_ | refine blk_alloc ?_ _)); refine blk_put (cs := #[.int .i64 t194, .int .i64 0, .slice none 0 0]) ?_ 1 _ rfl; (with_reducible repeat (first | refine blk_drewN ?_ _ | refine blk_drew ?_ | refine blk_alloc ?_ _)); refine blk_put (cs := #[.int .i64 0, .int .i64 0, .slice none 0 0]) ?_ 0 _ rfl; (with_reducible repeat (first | refine blk_drewN ?_ _ | refine blk_drew ?_ | refine blk_alloc ?_ _)); exact BK192.out))⟩; have n3_ : Aside0 (w1017.heap[gb199]? = some (.cells #[.int .i64 t194, .int .i64 t195, .slice Ao1008 t196.length co1008] 126 (0, 0))) := ⟨(by rw [hw]; exact (by (with_reducible repeat (first | refine blk_drewN ?_ _ | refine blk_drew ?_ | refine blk_alloc ?_ _)); refine blk_far ?_ NB199_192.out _; (with_reducible repeat (first | refine blk_drewN ?_ _ | refine blk_drew ?_ | refine blk_alloc ?_ _)); refine blk_far ?_ NB199_192.out _; (with_reducible repeat (first | refine blk_drewN ?_ _ | refine blk_drew ?_ | refine blk_alloc ?_ _)); refine blk_far ?_ NB199_192.out _; (with_reducible repeat (first | refine blk_drewN ?_ _ | refine blk_drew ?_ | refine blk_alloc ?_ _)); exact BK199.out))⟩; have n4_ : Aside0 (Below w.heap.size w w1017) := ⟨(by rw [hw]; exact wB)⟩; clear hw; clear HO198; clear BK191; clear BK192; clear BK199; clear HB; have HO198 := n0_; have BK191 := n1_; have BK192 := n2_; have BK199 := n3_; have HB := n4_; clear n0_ n1_ n2_ n3_ n4_))
 refine bodyPost_ret (results_ctt rfl _ _ gb192 63 #[.int .i64 t194, .int .i64 t195, .slice Ao1008 t196.length co1008] (0, 0) _ rfl (Bh BK192) Try.underlying63 rfl (by kernel_rfl)) rfl ?_
 exact ⟨_, by first | rfl | (simp [errW_none, errW_some] <;> rfl) | (simp [*, errW_none, errW_some] <;> rfl), by (with_reducible repeat (first | apply Kd.R_alloc | apply Kd.R_drewN | apply Kd.R_drew)); exact HO198.out, wB⟩
 }
 {
 replace c3 := Bool.eq_false_iff.mpr c3
 subst c3
 have H1 : (some (0, 0, ([] : List (S85)), 0, 1)) = some (r1, r2, r3, r4, r5) := by rw [if_neg (show ¬ (false = true) by decide)] at H; exact H
 clear H
 have H := H1
 clear H1
 simp only [Option.some.injEq, Prod.mk.injEq] at H
 obtain ⟨rfl, rfl, rfl, rfl, rfl⟩ := H
 go_enter Try.func48, Try.ntmps48
 go_wp2_with (first | ((with_reducible refine gate_dst (N := 1) rfl ?_); refine box_event ?hg (N := 1) ?hd (cs := #[.int .i64 a0_0, .int .i64 a0_1, .slice A0_2 l0_2.length c0_2]) (t := 63) ?hr ?_; (case hd => rfl); (case hg => rfl); (case hr => first | (go_simp; done) | (go_simp; rfl)); intro gb191 hg w1001 hbox hb; have n0_ := Aside0.mk (below_step wB hb); have n1_ := Aside0.mk (hbox); have n2_ := Aside0.mk ((by rw [hg]; exact (below_size wB) : w.heap.size ≤ gb191)); have n3_ := Aside0.mk ((by rw [hg]; exact (below_size wB) : w.heap.size ≤ gb191)); clear HB; have HB := n0_; have BK191 := n1_; have GW191 := n2_; have GE191 := n3_; clear n0_ n1_ n2_ n3_; clear hb hbox hg) | ((with_reducible refine gate_dst (N := 2) rfl ?_); refine box_event ?hg (N := 2) ?hd (cs := #[.int .i64 0, .int .i64 0, .slice none 0 0]) (t := 63) ?hr ?_; (case hd => rfl); (case hg => rfl); (case hr => first | (go_simp; done) | (go_simp; rfl)); intro gb192 hg w1002 hbox hb; have n0_ := Aside0.mk (blk_below (Bh BK191) hb); have n1_ := Aside0.mk (below_step wB hb); have n2_ := Aside0.mk (hbox); have n3_ := Aside0.mk ((by rw [hg]; exact (below_size wB) : w.heap.size ≤ gb192)); have n4_ := Aside0.mk ((by rw [hg]; exact (below_size wB) : w.heap.size ≤ gb192)); have n5_ := Aside0.mk ((by rw [hg]; exact Nat.ne_of_lt (blk_lt (Bh BK191)) : gb191 ≠ gb192)); have n6_ := Aside0.mk ((by rw [hg]; exact Nat.ne_of_gt (blk_lt (Bh BK191)) : gb192 ≠ gb191)); clear BK191; clear HB; have BK191 := n0_; have HB := n1_; have BK192 := n2_; have GW192 := n3_; have GE192 := n4_; have NB191_192 := n5_; have NB192_191 := n6_; clear n0_ n1_ n2_ n3_ n4_ n5_ n6_; clear hb hbox hg; have hnb1003 := NB191_192.out; have hnc1003 := NB192_191.out; obtain ⟨⟨hcz1004_0, hcz1004_1, hcz1004_2⟩, hfz1004_0, hfz1004_1, hfz1004_2⟩ := cells3 BK191.out) | ((with_reducible refine gate_callee (f := 86) rfl ?_); refine goesL_ (some 8) rfl rfl Try.func86 (by kernel_rfl) rfl #[.agg #[.int .i64 a0_0, .int .i64 a0_1, .slice A0_2 l0_2.length c0_2]] rfl wT ?_; (with_reducible refine (impl_okBoard.calls k a0_0 a0_1 _ _ l0_2 false _ ?side1 ?side2 A2.out).mono ?_); (case side1 => exact Kd.C_below HR0_2.out wB); (case side2 => exact HC0_2.out); rintro e w1005 ⟨rfl, hb⟩; refine ⟨_, rfl, ?_⟩; have n0_ := Aside0.mk (blk_below (Bh BK191) hb); have n1_ := Aside0.mk (blk_below (Bh BK192) hb); have n2_ := Aside0.mk (below_step wB hb); clear BK191; clear BK192; clear HB; have BK191 := n0_; have BK192 := n1_; have HB := n2_; clear n0_ n1_ n2_; (try clear hb); (try clear hb2); (try clear hk); (try clear hi); obtain ⟨⟨hcz1006_0, hcz1006_1, hcz1006_2⟩, hfz1006_0, hfz1006_1, hfz1006_2⟩ := cells3 BK192.out) | ((with_reducible refine gate_store (t := 63) (p := 2) rfl ?_); refine store_event (t := 63) (p := 2) (v := ?_) (w1 := (((w1005.setCell ⟨gb192, 0, none⟩ (.int .i64 0)).setCell ⟨gb192, 1, none⟩ (.int .i64 0)).setCell ⟨gb192, 2, none⟩ (.slice none 0 0))) ?hg ?ho ?hn ?hr ?_; (case ho => rfl); (case hg => rfl); (case hn => rfl); (case hr => first | (go_simp; done) | (go_simp; rfl)); intro w1007 hw; have n0_ : Aside0 (w1007.heap[gb191]? = some (.cells #[.int .i64 a0_0, .int .i64 a0_1, .slice A0_2 l0_2.length c0_2] 63 (0, 0))) := ⟨(by rw [hw]; exact (by (with_reducible repeat (first | refine blk_drewN ?_ _ | refine blk_drew ?_ | refine blk_alloc ?_ _)); refine blk_far ?_ NB191_192.out _; (with_reducible repeat (first | refine blk_drewN ?_ _ | refine blk_drew ?_ | refine blk_alloc ?_ _)); refine blk_far ?_ NB191_192.out _; (with_reducible repeat (first | refine blk_drewN ?_ _ | refine blk_drew ?_ | refine blk_alloc ?_ _)); refine blk_far ?_ NB191_192.out _; (with_reducible repeat (first | refine blk_drewN ?_ _ | refine blk_drew ?_ | refine blk_alloc ?_ _)); exact BK191.out))⟩; have n1_ : Aside0 (w1007.heap[gb192]? = some (.cells #[.int .i64 0, .int .i64 0, .slice none 0 0] 63 (0, 0))) := ⟨(by rw [hw]; exact (by (with_reducible repeat (first | refine blk_drewN ?_ _ | refine blk_drew ?_ | refine blk_alloc ?_ _)); refine blk_put (cs := #[.int .i64 0, .int .i64 0, .slice none 0 0]) ?_ 2 _ rfl; (with_reducible repeat (first | refine blk_drewN ?_ _ | refine blk_drew ?_ | refine blk_alloc ?_ _)); refine blk_put (cs := #[.int .i64 0, .int .i64 0, .slice none 0 0]) ?_ 1 _ rfl; (with_reducible repeat (first | refine blk_drewN ?_ _ | refine blk_drew ?_ | refine blk_alloc ?_ _)); refine blk_put (cs := #[.int .i64 0, .int .i64 0, .slice none 0 0]) ?_ 0 _ rfl; (with_reducible repeat (first | refine blk_drewN ?_ _ | refine blk_drew ?_ | refine blk_alloc ?_ _)); exact BK192.out))⟩; have n2_ : Aside0 (Below w.heap.size w w1007) := ⟨(by rw [hw]; exact wB)⟩; clear hw; clear BK191; clear BK192; clear HB; have BK191 := n0_; have BK192 := n1_; have HB := n2_; clear n0_ n1_ n2_))
 refine bodyPost_ret (results_ctt rfl _ _ gb192 63 #[.int .i64 0, .int .i64 0, .slice none 0 0] (0, 0) _ rfl (Bh BK192) Try.underlying63 rfl (by kernel_rfl)) rfl ?_
 exact ⟨_, by first | rfl | (simp [errW_none, errW_some] <;> rfl) | (simp [*, errW_none, errW_some] <;> rfl), by first | exact Kd.R_nil _ _ _ _ _ | exact Kd.N_nil _ _ _ _ _ | exact Kd.V_nil _ _ _ _ _ | exact Kd.Q_nil _ _ _ _ _ | exact Kd.S_nil _ _ _ _ _, wB⟩
 }

end Go.Proofs.Ytkfbcmbemihbnaa.PFnExactBoardLose
