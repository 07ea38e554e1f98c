-- Written for this claim by a program of this session (wip/mkprint.py: the print, turned at a few places). Not trusted: Lean checks it.
import Derived.Test.YtkfbcmbemihbnaaPFnExactBoardAgainx0
namespace Go.Proofs.Ytkfbcmbemihbnaa.PFnExactBoardAgain
open Go.RowKit Go.Proofs.YtkfbcmbemihbnaaW.PrintWords Go.Proofs.YtkfbcmbemihbnaaW.PrintLast Go.Proofs.YtkfbcmbemihbnaaW.PrintMore
attribute [local go_sem] max2_int min2_int max_two min_two max_three min_three max_four min_four   -- for this text's walks alone
set_option linter.unusedVariables false
set_option linter.unusedSimpArgs false

/-! ### laws_markPieceS: function 90 -/
def laws_markPieceS.l0 : Nat → List (S85) → Int → Int → Option (Int × (List (S85)))
  | 0, _, _, _ => none
  | k + 1, x0, x1, x5 => if x5 < (x0.length : Int) then (if 0 ≤ x5 then ((some (x0.set (x5 : Int).toNat (⟨x1, (rd_T85 x0 x5).f1, (rd_T85 x0 x5).f2, (rd_T85 x0 x5).f3, (rd_T85 x0 x5).f4, (rd_T85 x0 x5).f5⟩ : S85) : List (S85))).bind fun y131 => ((some (y131.set (x5 : Int).toNat (⟨(rd_T85 y131 x5).f0, wrap64 (x1 + 1), (rd_T85 y131 x5).f2, (rd_T85 y131 x5).f3, (rd_T85 y131 x5).f4, (rd_T85 y131 x5).f5⟩ : S85) : List (S85))).bind fun y132 => ((some (y132.set (x5 : Int).toNat (⟨(rd_T85 y132 x5).f0, (rd_T85 y132 x5).f1, wrap64 ((wrap64 (x1 + 1)) + 1), (rd_T85 y132 x5).f3, (rd_T85 y132 x5).f4, (rd_T85 y132 x5).f5⟩ : S85) : List (S85))).bind fun y133 => ((some (y133.set (x5 : Int).toNat (⟨(rd_T85 y133 x5).f0, (rd_T85 y133 x5).f1, (rd_T85 y133 x5).f2, wrap64 ((wrap64 ((wrap64 (x1 + 1)) + 1)) + 1), (rd_T85 y133 x5).f4, (rd_T85 y133 x5).f5⟩ : S85) : List (S85))).bind fun y134 => ((some (y134.set (x5 : Int).toNat (⟨(rd_T85 y134 x5).f0, (rd_T85 y134 x5).f1, (rd_T85 y134 x5).f2, (rd_T85 y134 x5).f3, ((Int.tmod (wrap64 ((wrap64 ((wrap64 ((wrap64 (x1 + 1)) + 1)) + 1)) + 1)) 3) == 0), (rd_T85 y134 x5).f5⟩ : S85) : List (S85))).bind fun y135 => (laws_markPieceS.l0 k (y135.set (x5 : Int).toNat (⟨(rd_T85 y135 x5).f0, (rd_T85 y135 x5).f1, (rd_T85 y135 x5).f2, (rd_T85 y135 x5).f3, (rd_T85 y135 x5).f4, ((Int.tmod (wrap64 ((wrap64 ((wrap64 ((wrap64 ((wrap64 (x1 + 1)) + 1)) + 1)) + 1)) + 1)) 3) == 0)⟩ : S85)) (wrap64 ((wrap64 ((wrap64 ((wrap64 ((wrap64 ((wrap64 (x1 + 1)) + 1)) + 1)) + 1)) + 1)) + 1)) (wrap64 (x5 + 1)))))))) else (none)) else (some (x1, x0))
def laws_markPieceS.f (k : Nat) (l0 : List (S85)) (a1 : Int) : Option (Int × (List (S85))) := laws_markPieceS.l0 k l0 a1 0
theorem laws_markPieceS.mono_l : ∀ k, (∀ y0 y1 y2, LeO (laws_markPieceS.l0 k y0 y1 y2) (laws_markPieceS.l0 (k + 1) y0 y1 y2))
  | 0 => fun _ _ _ r h => by simp [laws_markPieceS.l0] at h
  | k + 1 => by
    have ih0 := laws_markPieceS.mono_l k
    · intro y0 y1 y2
      unfold laws_markPieceS.l0
      repeat' first
      | (with_reducible exact ih0 _ _ _)
      | (with_reducible exact LeO.refl _)
      | (with_reducible exact LeO.none _)
      | (with_reducible refine LeO.ite ?_ ?_)
      | (with_reducible refine LeO.bind ?_ (fun _ => ?_))
      | exact ih0 _ _ _
      | exact LeO.none _
      | refine LeO.ite ?_ ?_
      | refine LeO.bind ?_ (fun _ => ?_)
theorem laws_markPieceS.mono : ∀ a0 a1 k, LeO (laws_markPieceS.f k a0 a1) (laws_markPieceS.f (k + 1) a0 a1) := by
 intro a0 a1 k
 have ih0 := laws_markPieceS.mono_l k
 unfold laws_markPieceS.f
 repeat' first
     | (with_reducible exact ih0 _ _ _)
     | (with_reducible exact LeO.refl _)
     | (with_reducible exact LeO.none _)
     | (with_reducible refine LeO.ite ?_ ?_)
     | (with_reducible refine LeO.bind ?_ (fun _ => ?_))
     | exact ih0 _ _ _
     | exact LeO.none _
     | refine LeO.ite ?_ ?_
     | refine LeO.bind ?_ (fun _ => ?_)
set_option maxHeartbeats 60000000 in
set_option maxRecDepth 100000 in
theorem laws_markPieceS.calls (k : Nat) (P0_ : Nat → Prop) (u9000_ : Value) (l0 : List (S85)) (a1 : Int) (r1 : Int) (r2 : List (S85)) (w0 w : World) (hB : Below w0.heap.size w0 w) (ho0 : Kd.R k85 85 w w0.heap.size P0_ u9000_ l0) (h : laws_markPieceS.f k l0 a1 = some (r1, r2)) :
 Calls Try.prog 90 #[u9000_, .int .i64 a1] w fun e w' => e = .returned (.int .i64 r1) ∧ Kd.R k85 85 w' w0.heap.size (fun k_ => (P0_ k_ ∨ w.heap.size ≤ k_)) u9000_ r2 ∧ Below w0.heap.size w0 w' ∧ Kept w w' (fun k_ => P0_ k_) := by
 have HO0 := Aside0.mk (show Kd.R k85 85 w w0.heap.size (fun k_ => (P0_ k_ ∨ w.heap.size ≤ k_)) u9000_ l0 from Kd.R_mono ho0 (fun k_ hk => (.inl hk)))
 have HK := Aside0.mk (Kept.refl w (fun k_ => P0_ k_))
 have HW0 := Aside0.mk hB.size
 have HB := Aside0.mk hB
 clear hB
 have H : (laws_markPieceS.l0 k l0 a1 0) = some (r1, r2) := h
 clear h
 have H' := Aside0.mk H
 clear H
 go_enter Try.func90, Try.ntmps90
 go_wp2
 go_loopg [1, 5] k (fun kq v1 v5 w' => ∃ (x0_1 : List (S85)) (x1_1 : Int) (x5_1 : Int), v1 = .int .i64 x1_1 ∧ v5 = .int .i64 x5_1 ∧ Aside0 (laws_markPieceS.l0 kq x0_1 x1_1 x5_1 = some (r1, r2)) ∧ Aside0 (kq ≤ k) ∧ Aside0 (Kd.R k85 85 w' w0.heap.size (fun k_ => (P0_ k_ ∨ w.heap.size ≤ k_)) u9000_ x0_1) ∧ Aside0 (Kept w w' (fun k_ => P0_ k_)) ∧ Aside0 (Below w0.heap.size w0 w'))
 case atStart => exact ⟨(l0), (a1), (0), (by first | rfl | (simp; done) | (simp [*]; done)), (by first | rfl | (simp; done) | (simp [*]; done)), H', ⟨Nat.le_refl _⟩, ⟨Rh HO0⟩, ⟨by repeat (first | (with_reducible first | exact HK.out | apply Kept.alloc | apply Kept.drewN | apply Kept.drew) | exact HK.out)⟩, ⟨wB⟩⟩
 case round => (
 clear H'
 obtain ⟨x0_1, x1_1, x5_1, rfl, rfl, HA, HK1, HO_0, HK, HB⟩ := hrel
 cases gk with
 | zero => exact absurd HA.out (by simp [laws_markPieceS.l0])
 | succ k1 => {
 have H := HA.out
 clear HA
 simp only [laws_markPieceS.l0] at H
 by_cases c1001 : x5_1 < (x0_1.length : Int)
 {
 rw [if_pos c1001] at H
 have c1001b0 : decide (x5_1 < (x0_1.length : Int)) = true := decide_eq_true c1001
 clear c1001
 by_cases c1002 : 0 ≤ x5_1
 {
 rw [if_pos c1002] at H
 have c1002b0 : decide (0 ≤ x5_1) = true := decide_eq_true c1002
 clear c1002
 obtain ⟨y131, hy131⟩ : ∃ y_ : List (S85), y_ = (x0_1.set (x5_1 : Int).toNat (⟨x1_1, (rd_T85 x0_1 x5_1).f1, (rd_T85 x0_1 x5_1).f2, (rd_T85 x0_1 x5_1).f3, (rd_T85 x0_1 x5_1).f4, (rd_T85 x0_1 x5_1).f5⟩ : S85)) := ⟨_, rfl⟩
 replace H : ((some (y131.set (x5_1 : Int).toNat (⟨(rd_T85 y131 x5_1).f0, wrap64 (x1_1 + 1), (rd_T85 y131 x5_1).f2, (rd_T85 y131 x5_1).f3, (rd_T85 y131 x5_1).f4, (rd_T85 y131 x5_1).f5⟩ : S85) : List (S85))).bind fun y132 => ((some (y132.set (x5_1 : Int).toNat (⟨(rd_T85 y132 x5_1).f0, (rd_T85 y132 x5_1).f1, wrap64 ((wrap64 (x1_1 + 1)) + 1), (rd_T85 y132 x5_1).f3, (rd_T85 y132 x5_1).f4, (rd_T85 y132 x5_1).f5⟩ : S85) : List (S85))).bind fun y133 => ((some (y133.set (x5_1 : Int).toNat (⟨(rd_T85 y133 x5_1).f0, (rd_T85 y133 x5_1).f1, (rd_T85 y133 x5_1).f2, wrap64 ((wrap64 ((wrap64 (x1_1 + 1)) + 1)) + 1), (rd_T85 y133 x5_1).f4, (rd_T85 y133 x5_1).f5⟩ : S85) : List (S85))).bind fun y134 => ((some (y134.set (x5_1 : Int).toNat (⟨(rd_T85 y134 x5_1).f0, (rd_T85 y134 x5_1).f1, (rd_T85 y134 x5_1).f2, (rd_T85 y134 x5_1).f3, ((Int.tmod (wrap64 ((wrap64 ((wrap64 ((wrap64 (x1_1 + 1)) + 1)) + 1)) + 1)) 3) == 0), (rd_T85 y134 x5_1).f5⟩ : S85) : List (S85))).bind fun y135 => (laws_markPieceS.l0 k1 (y135.set (x5_1 : Int).toNat (⟨(rd_T85 y135 x5_1).f0, (rd_T85 y135 x5_1).f1, (rd_T85 y135 x5_1).f2, (rd_T85 y135 x5_1).f3, (rd_T85 y135 x5_1).f4, ((Int.tmod (wrap64 ((wrap64 ((wrap64 ((wrap64 ((wrap64 (x1_1 + 1)) + 1)) + 1)) + 1)) + 1)) 3) == 0)⟩ : S85)) (wrap64 ((wrap64 ((wrap64 ((wrap64 ((wrap64 ((wrap64 (x1_1 + 1)) + 1)) + 1)) + 1)) + 1)) + 1)) (wrap64 (x5_1 + 1))))))) = some (r1, r2) := by first | (rw [hy131]; with_reducible exact H) | (have H2_ := (Option.bind_some _ _).symm.trans H; rw [hy131]; with_reducible exact H2_) | (have H2_ := (Option.bind_some _ _).symm.trans H; with_reducible exact H2_) | with_reducible exact H | (rw [hy131]; exact H) | exact H
 have Ny131 := Aside0.mk hy131
 clear hy131
 obtain ⟨y132, hy132⟩ : ∃ y_ : List (S85), y_ = (y131.set (x5_1 : Int).toNat (⟨(rd_T85 y131 x5_1).f0, wrap64 (x1_1 + 1), (rd_T85 y131 x5_1).f2, (rd_T85 y131 x5_1).f3, (rd_T85 y131 x5_1).f4, (rd_T85 y131 x5_1).f5⟩ : S85)) := ⟨_, rfl⟩
 replace H : ((some (y132.set (x5_1 : Int).toNat (⟨(rd_T85 y132 x5_1).f0, (rd_T85 y132 x5_1).f1, wrap64 ((wrap64 (x1_1 + 1)) + 1), (rd_T85 y132 x5_1).f3, (rd_T85 y132 x5_1).f4, (rd_T85 y132 x5_1).f5⟩ : S85) : List (S85))).bind fun y133 => ((some (y133.set (x5_1 : Int).toNat (⟨(rd_T85 y133 x5_1).f0, (rd_T85 y133 x5_1).f1, (rd_T85 y133 x5_1).f2, wrap64 ((wrap64 ((wrap64 (x1_1 + 1)) + 1)) + 1), (rd_T85 y133 x5_1).f4, (rd_T85 y133 x5_1).f5⟩ : S85) : List (S85))).bind fun y134 => ((some (y134.set (x5_1 : Int).toNat (⟨(rd_T85 y134 x5_1).f0, (rd_T85 y134 x5_1).f1, (rd_T85 y134 x5_1).f2, (rd_T85 y134 x5_1).f3, ((Int.tmod (wrap64 ((wrap64 ((wrap64 ((wrap64 (x1_1 + 1)) + 1)) + 1)) + 1)) 3) == 0), (rd_T85 y134 x5_1).f5⟩ : S85) : List (S85))).bind fun y135 => (laws_markPieceS.l0 k1 (y135.set (x5_1 : Int).toNat (⟨(rd_T85 y135 x5_1).f0, (rd_T85 y135 x5_1).f1, (rd_T85 y135 x5_1).f2, (rd_T85 y135 x5_1).f3, (rd_T85 y135 x5_1).f4, ((Int.tmod (wrap64 ((wrap64 ((wrap64 ((wrap64 ((wrap64 (x1_1 + 1)) + 1)) + 1)) + 1)) + 1)) 3) == 0)⟩ : S85)) (wrap64 ((wrap64 ((wrap64 ((wrap64 ((wrap64 ((wrap64 (x1_1 + 1)) + 1)) + 1)) + 1)) + 1)) + 1)) (wrap64 (x5_1 + 1)))))) = some (r1, r2) := by first | (rw [hy132]; with_reducible exact H) | (have H2_ := (Option.bind_some _ _).symm.trans H; rw [hy132]; with_reducible exact H2_) | (have H2_ := (Option.bind_some _ _).symm.trans H; with_reducible exact H2_) | with_reducible exact H | (rw [hy132]; exact H) | exact H
 have Ny132 := Aside0.mk hy132
 clear hy132
 obtain ⟨y133, hy133⟩ : ∃ y_ : List (S85), y_ = (y132.set (x5_1 : Int).toNat (⟨(rd_T85 y132 x5_1).f0, (rd_T85 y132 x5_1).f1, wrap64 ((wrap64 (x1_1 + 1)) + 1), (rd_T85 y132 x5_1).f3, (rd_T85 y132 x5_1).f4, (rd_T85 y132 x5_1).f5⟩ : S85)) := ⟨_, rfl⟩
 replace H : ((some (y133.set (x5_1 : Int).toNat (⟨(rd_T85 y133 x5_1).f0, (rd_T85 y133 x5_1).f1, (rd_T85 y133 x5_1).f2, wrap64 ((wrap64 ((wrap64 (x1_1 + 1)) + 1)) + 1), (rd_T85 y133 x5_1).f4, (rd_T85 y133 x5_1).f5⟩ : S85) : List (S85))).bind fun y134 => ((some (y134.set (x5_1 : Int).toNat (⟨(rd_T85 y134 x5_1).f0, (rd_T85 y134 x5_1).f1, (rd_T85 y134 x5_1).f2, (rd_T85 y134 x5_1).f3, ((Int.tmod (wrap64 ((wrap64 ((wrap64 ((wrap64 (x1_1 + 1)) + 1)) + 1)) + 1)) 3) == 0), (rd_T85 y134 x5_1).f5⟩ : S85) : List (S85))).bind fun y135 => (laws_markPieceS.l0 k1 (y135.set (x5_1 : Int).toNat (⟨(rd_T85 y135 x5_1).f0, (rd_T85 y135 x5_1).f1, (rd_T85 y135 x5_1).f2, (rd_T85 y135 x5_1).f3, (rd_T85 y135 x5_1).f4, ((Int.tmod (wrap64 ((wrap64 ((wrap64 ((wrap64 ((wrap64 (x1_1 + 1)) + 1)) + 1)) + 1)) + 1)) 3) == 0)⟩ : S85)) (wrap64 ((wrap64 ((wrap64 ((wrap64 ((wrap64 ((wrap64 (x1_1 + 1)) + 1)) + 1)) + 1)) + 1)) + 1)) (wrap64 (x5_1 + 1))))) = some (r1, r2) := by first | (rw [hy133]; with_reducible exact H) | (have H2_ := (Option.bind_some _ _).symm.trans H; rw [hy133]; with_reducible exact H2_) | (have H2_ := (Option.bind_some _ _).symm.trans H; with_reducible exact H2_) | with_reducible exact H | (rw [hy133]; exact H) | exact H
 have Ny133 := Aside0.mk hy133
 clear hy133
 obtain ⟨y134, hy134⟩ : ∃ y_ : List (S85), y_ = (y133.set (x5_1 : Int).toNat (⟨(rd_T85 y133 x5_1).f0, (rd_T85 y133 x5_1).f1, (rd_T85 y133 x5_1).f2, wrap64 ((wrap64 ((wrap64 (x1_1 + 1)) + 1)) + 1), (rd_T85 y133 x5_1).f4, (rd_T85 y133 x5_1).f5⟩ : S85)) := ⟨_, rfl⟩
 replace H : ((some (y134.set (x5_1 : Int).toNat (⟨(rd_T85 y134 x5_1).f0, (rd_T85 y134 x5_1).f1, (rd_T85 y134 x5_1).f2, (rd_T85 y134 x5_1).f3, ((Int.tmod (wrap64 ((wrap64 ((wrap64 ((wrap64 (x1_1 + 1)) + 1)) + 1)) + 1)) 3) == 0), (rd_T85 y134 x5_1).f5⟩ : S85) : List (S85))).bind fun y135 => (laws_markPieceS.l0 k1 (y135.set (x5_1 : Int).toNat (⟨(rd_T85 y135 x5_1).f0, (rd_T85 y135 x5_1).f1, (rd_T85 y135 x5_1).f2, (rd_T85 y135 x5_1).f3, (rd_T85 y135 x5_1).f4, ((Int.tmod (wrap64 ((wrap64 ((wrap64 ((wrap64 ((wrap64 (x1_1 + 1)) + 1)) + 1)) + 1)) + 1)) 3) == 0)⟩ : S85)) (wrap64 ((wrap64 ((wrap64 ((wrap64 ((wrap64 ((wrap64 (x1_1 + 1)) + 1)) + 1)) + 1)) + 1)) + 1)) (wrap64 (x5_1 + 1)))) = some (r1, r2) := by first | (rw [hy134]; with_reducible exact H) | (have H2_ := (Option.bind_some _ _).symm.trans H; rw [hy134]; with_reducible exact H2_) | (have H2_ := (Option.bind_some _ _).symm.trans H; with_reducible exact H2_) | with_reducible exact H | (rw [hy134]; exact H) | exact H
 have Ny134 := Aside0.mk hy134
 clear hy134
 obtain ⟨y135, hy135⟩ : ∃ y_ : List (S85), y_ = (y134.set (x5_1 : Int).toNat (⟨(rd_T85 y134 x5_1).f0, (rd_T85 y134 x5_1).f1, (rd_T85 y134 x5_1).f2, (rd_T85 y134 x5_1).f3, ((Int.tmod (wrap64 ((wrap64 ((wrap64 ((wrap64 (x1_1 + 1)) + 1)) + 1)) + 1)) 3) == 0), (rd_T85 y134 x5_1).f5⟩ : S85)) := ⟨_, rfl⟩
 replace H : (laws_markPieceS.l0 k1 (y135.set (x5_1 : Int).toNat (⟨(rd_T85 y135 x5_1).f0, (rd_T85 y135 x5_1).f1, (rd_T85 y135 x5_1).f2, (rd_T85 y135 x5_1).f3, (rd_T85 y135 x5_1).f4, ((Int.tmod (wrap64 ((wrap64 ((wrap64 ((wrap64 ((wrap64 (x1_1 + 1)) + 1)) + 1)) + 1)) + 1)) 3) == 0)⟩ : S85)) (wrap64 ((wrap64 ((wrap64 ((wrap64 ((wrap64 ((wrap64 (x1_1 + 1)) + 1)) + 1)) + 1)) + 1)) + 1)) (wrap64 (x5_1 + 1))) = some (r1, r2) := by first | (rw [hy135]; with_reducible exact H) | (have H2_ := (Option.bind_some _ _).symm.trans H; rw [hy135]; with_reducible exact H2_) | (have H2_ := (Option.bind_some _ _).symm.trans H; with_reducible exact H2_) | with_reducible exact H | (rw [hy135]; exact H) | exact H
 have Ny135 := Aside0.mk hy135
 clear hy135
 obtain ⟨y136, hy136⟩ : ∃ y_ : List (S85), y_ = (y135.set (x5_1 : Int).toNat (⟨(rd_T85 y135 x5_1).f0, (rd_T85 y135 x5_1).f1, (rd_T85 y135 x5_1).f2, (rd_T85 y135 x5_1).f3, (rd_T85 y135 x5_1).f4, ((Int.tmod (wrap64 ((wrap64 ((wrap64 ((wrap64 ((wrap64 (x1_1 + 1)) + 1)) + 1)) + 1)) + 1)) 3) == 0)⟩ : S85)) := ⟨_, rfl⟩
 replace H : (laws_markPieceS.l0 k1 y136 (wrap64 ((wrap64 ((wrap64 ((wrap64 ((wrap64 ((wrap64 (x1_1 + 1)) + 1)) + 1)) + 1)) + 1)) + 1)) (wrap64 (x5_1 + 1))) = some (r1, r2) := by first | (rw [hy136]; with_reducible exact H) | (have H2_ := (Option.bind_some _ _).symm.trans H; rw [hy136]; with_reducible exact H2_) | (have H2_ := (Option.bind_some _ _).symm.trans H; with_reducible exact H2_) | with_reducible exact H | (rw [hy136]; exact H) | exact H
 have Ny136 := Aside0.mk hy136
 clear hy136
 have H' := Aside0.mk H
 clear H
 obtain ⟨Ao2001, co2001, eo2001⟩ := Kd.R_slice HO_0.out
 subst eo2001
 have p1003 : 0 ≤ (x5_1 : Int) := of_decide_eq_true (by first | (with_reducible assumption) | assumption)
 have q1003 : (x5_1 : Int) < ((x0_1.length : Int) : Int) := of_decide_eq_true (by first | (with_reducible assumption) | assumption)
 obtain ⟨go1003, co1003, eo1003, gb1003, gl1003, cl1003, HG1003⟩ := Kd.R_form HO_0.out (by omega)
 (first | cases eo1003 | (injection eo1003 with ea_ en_ ec_; (first | subst ea_ | (injection ea_ with ea_; subst ea_)); subst ec_; clear en_))
 have GB1003 := Aside0.mk gb1003
 have GG1003 := Aside0.mk HG1003
 clear gb1003 gl1003 HG1003
 have HMgo1003 := Aside0.mk (show (P0_ go1003 ∨ w.heap.size ≤ go1003) from (HO_0.out.1 _ rfl))
 obtain ⟨ce1003, hcl1003, hM1003, hcc1003, hfr1003⟩ := Kd.R_elem HO_0.out z85 (x5_1 : Int) p1003 q1003
 obtain rfl := k85_openM hM1003
 have hx1003_0 : wr.cell? ⟨go1003, (x5_1 : Int).toNat * 6, none⟩ = some (.int .i64 ((rd_T85 x0_1 x5_1).f0)) := hcc1003 0 _ rfl
 have hx1003_1 : wr.cell? ⟨go1003, (x5_1 : Int).toNat * 6 + 1, none⟩ = some (.int .i64 ((rd_T85 x0_1 x5_1).f1)) := hcc1003 1 _ rfl
 have hx1003_2 : wr.cell? ⟨go1003, (x5_1 : Int).toNat * 6 + 2, none⟩ = some (.int .i64 ((rd_T85 x0_1 x5_1).f2)) := hcc1003 2 _ rfl
 have hx1003_3 : wr.cell? ⟨go1003, (x5_1 : Int).toNat * 6 + 3, none⟩ = some (.int .i64 ((rd_T85 x0_1 x5_1).f3)) := hcc1003 3 _ rfl
 have hx1003_4 : wr.cell? ⟨go1003, (x5_1 : Int).toNat * 6 + 4, none⟩ = some (.bool ((rd_T85 x0_1 x5_1).f4)) := hcc1003 4 _ rfl
 have hx1003_5 : wr.cell? ⟨go1003, (x5_1 : Int).toNat * 6 + 5, none⟩ = some (.bool ((rd_T85 x0_1 x5_1).f5)) := hcc1003 5 _ rfl
 have hf1003_0 : wr.frozen? ⟨go1003, (x5_1 : Int).toNat * 6, none⟩ = false := hfr1003 0
 have hf1003_1 : wr.frozen? ⟨go1003, (x5_1 : Int).toNat * 6 + 1, none⟩ = false := hfr1003 1
 have hf1003_2 : wr.frozen? ⟨go1003, (x5_1 : Int).toNat * 6 + 2, none⟩ = false := hfr1003 2
 have hf1003_3 : wr.frozen? ⟨go1003, (x5_1 : Int).toNat * 6 + 3, none⟩ = false := hfr1003 3
 have hf1003_4 : wr.frozen? ⟨go1003, (x5_1 : Int).toNat * 6 + 4, none⟩ = false := hfr1003 4
 have hf1003_5 : wr.frozen? ⟨go1003, (x5_1 : Int).toNat * 6 + 5, none⟩ = false := hfr1003 5
 clear hcl1003 hcc1003 hfr1003 hM1003
 replace p1003 := eq_true p1003
 replace q1003 := eq_true q1003
 have HX2002 := Aside0.mk (show Kd.R k85 85 wr w0.heap.size (fun k_ => (P0_ k_ ∨ w.heap.size ≤ k_)) (.slice (some ⟨go1003, 0, none⟩) x0_1.length co2001) x0_1 from (Rh HO_0))
 obtain ⟨ce2002, hcl2002, hM2002, hcc2002, hfr2002⟩ := Kd.R_elem HX2002.out z85 (x5_1 : Int) (of_decide_eq_true (by first | (with_reducible assumption) | assumption)) (by have h_ : (x5_1 : Int) < ((x0_1.length : Int) : Int) := of_decide_eq_true (by first | (with_reducible assumption) | assumption); first | exact h_ | (have e_ := (Kd.R_reads' HO_0.out).1; omega) | simpa using h_)
 obtain rfl := k85_openM hM2002
 have HP2002 := Kd.R_seg HX2002.out (x5_1 : Int) (of_decide_eq_true (by first | (with_reducible assumption) | assumption)) (by have h_ : (x5_1 : Int) < ((x0_1.length : Int) : Int) := of_decide_eq_true (by first | (with_reducible assumption) | assumption); first | exact h_ | (have e_ := (Kd.R_reads' HO_0.out).1; omega) | simpa using h_) (seg := [.int .i64 x1_1]) (j := 0) hcl2002 hcc2002 (show 1 ≤ 6 from by decide) (x' := (⟨x1_1, (rd_T85 x0_1 x5_1).f1, (rd_T85 x0_1 x5_1).f2, (rd_T85 x0_1 x5_1).f3, (rd_T85 x0_1 x5_1).f4, (rd_T85 x0_1 x5_1).f5⟩ : S85)) (k85_mkM _ _ _ (⟨x1_1, (rd_T85 x0_1 x5_1).f1, (rd_T85 x0_1 x5_1).f2, (rd_T85 x0_1 x5_1).f3, (rd_T85 x0_1 x5_1).f4, (rd_T85 x0_1 x5_1).f5⟩ : S85) ) (fun _ hk => hk)
 have hx2002_0 := hcc2002 0 _ rfl
 (try simp only [show (k85).sz = 6 from rfl, Nat.mul_one, Nat.add_zero] at hx2002_0)
 have hf2002_0 := hfr2002 0
 (try simp only [show (k85).sz = 6 from rfl, Nat.mul_one, Nat.add_zero] at hf2002_0)
 clear hcl2002 hcc2002 hfr2002 hM2002
 go_wp2_with (first | ((with_reducible refine gate_store (t := 2) (p := 16) rfl ?_); refine store_event (t := 2) (p := 16) (v := ?_) (w1 := (wr.setCell ⟨go1003, (x5_1 : Int).toNat * 6, none⟩ (.int .i64 x1_1))) ?hg ?ho ?hn ?hr ?_; (case ho => rfl); (case hg => rfl); (case hn => rfl); (case hr => first | (go_simp; done) | (go_simp; rfl)); intro w2003 hw; have hg : wr.grownBy w2003 (some go1003) := (by rw [hw]; exact HP2002.2); have hp_ : Kd.R k85 85 w2003 w0.heap.size (fun k_ => (P0_ k_ ∨ w.heap.size ≤ k_)) (.slice (some ⟨go1003, 0, none⟩) x0_1.length co2001) y131 := (by rw [hw, Ny131.out]; exact HP2002.1); clear HP2002; have n0_ := Aside0.mk (hp_); have n1_ := Aside0.mk ((by rw [hw]; exact below_set (HB.out) GB1003.out : Below w0.heap.size w0 w2003)); have n2_ := Aside0.mk (Kept.of_grown (S := (fun k_ => P0_ k_)) hg (by repeat (first | (with_reducible first | exact HK.out | apply Kept.alloc | apply Kept.drewN | apply Kept.drew) | exact HK.out)) (fun k_ e_ => (HO_0.out.1 k_ e_))); clear HO_0; clear HB; clear HK; have HO_0 := n0_; have HB := n1_; have HK := n2_; clear n0_ n1_ n2_; clear hg hw hp_; have p1004 : 0 ≤ (x5_1 : Int) := of_decide_eq_true (by first | (with_reducible assumption) | assumption); have q1004 : (x5_1 : Int) < ((x0_1.length : Int) : Int) := of_decide_eq_true (by first | (with_reducible assumption) | assumption); obtain ⟨ce1004, hcl1004, hM1004, hcc1004, hfr1004⟩ := Kd.R_elem HO_0.out z85 (x5_1 : Int) p1004 q1004; obtain rfl := k85_openM hM1004; have hx1004_0 : w2003.cell? ⟨go1003, (x5_1 : Int).toNat * 6, none⟩ = some (.int .i64 ((rd_T85 y131 x5_1).f0)) := hcc1004 0 _ rfl; have hx1004_1 : w2003.cell? ⟨go1003, (x5_1 : Int).toNat * 6 + 1, none⟩ = some (.int .i64 ((rd_T85 y131 x5_1).f1)) := hcc1004 1 _ rfl; have hx1004_2 : w2003.cell? ⟨go1003, (x5_1 : Int).toNat * 6 + 2, none⟩ = some (.int .i64 ((rd_T85 y131 x5_1).f2)) := hcc1004 2 _ rfl; have hx1004_3 : w2003.cell? ⟨go1003, (x5_1 : Int).toNat * 6 + 3, none⟩ = some (.int .i64 ((rd_T85 y131 x5_1).f3)) := hcc1004 3 _ rfl; have hx1004_4 : w2003.cell? ⟨go1003, (x5_1 : Int).toNat * 6 + 4, none⟩ = some (.bool ((rd_T85 y131 x5_1).f4)) := hcc1004 4 _ rfl; have hx1004_5 : w2003.cell? ⟨go1003, (x5_1 : Int).toNat * 6 + 5, none⟩ = some (.bool ((rd_T85 y131 x5_1).f5)) := hcc1004 5 _ rfl; have hf1004_0 : w2003.frozen? ⟨go1003, (x5_1 : Int).toNat * 6, none⟩ = false := hfr1004 0; have hf1004_1 : w2003.frozen? ⟨go1003, (x5_1 : Int).toNat * 6 + 1, none⟩ = false := hfr1004 1; have hf1004_2 : w2003.frozen? ⟨go1003, (x5_1 : Int).toNat * 6 + 2, none⟩ = false := hfr1004 2; have hf1004_3 : w2003.frozen? ⟨go1003, (x5_1 : Int).toNat * 6 + 3, none⟩ = false := hfr1004 3; have hf1004_4 : w2003.frozen? ⟨go1003, (x5_1 : Int).toNat * 6 + 4, none⟩ = false := hfr1004 4; have hf1004_5 : w2003.frozen? ⟨go1003, (x5_1 : Int).toNat * 6 + 5, none⟩ = false := hfr1004 5; clear hcl1004 hcc1004 hfr1004 hM1004; replace p1004 := eq_true p1004; replace q1004 := eq_true q1004; have HX2004 := Aside0.mk (show Kd.R k85 85 w2003 w0.heap.size (fun k_ => (P0_ k_ ∨ w.heap.size ≤ k_)) (.slice (some ⟨go1003, 0, none⟩) x0_1.length co2001) y131 from (Rh HO_0)); obtain ⟨ce2004, hcl2004, hM2004, hcc2004, hfr2004⟩ := Kd.R_elem HX2004.out z85 (x5_1 : Int) (of_decide_eq_true (by first | (with_reducible assumption) | assumption)) (by have h_ : (x5_1 : Int) < ((x0_1.length : Int) : Int) := of_decide_eq_true (by first | (with_reducible assumption) | assumption); first | exact h_ | (have e_ := (Kd.R_reads' HO_0.out).1; omega) | simpa using h_); obtain rfl := k85_openM hM2004; have HP2004 := Kd.R_seg HX2004.out (x5_1 : Int) (of_decide_eq_true (by first | (with_reducible assumption) | assumption)) (by have h_ : (x5_1 : Int) < ((x0_1.length : Int) : Int) := of_decide_eq_true (by first | (with_reducible assumption) | assumption); first | exact h_ | (have e_ := (Kd.R_reads' HO_0.out).1; omega) | simpa using h_) (seg := [.int .i64 (wrap64 (x1_1 + 1))]) (j := 1) hcl2004 hcc2004 (show 2 ≤ 6 from by decide) (x' := (⟨(rd_T85 y131 x5_1).f0, wrap64 (x1_1 + 1), (rd_T85 y131 x5_1).f2, (rd_T85 y131 x5_1).f3, (rd_T85 y131 x5_1).f4, (rd_T85 y131 x5_1).f5⟩ : S85)) (k85_mkM _ _ _ (⟨(rd_T85 y131 x5_1).f0, wrap64 (x1_1 + 1), (rd_T85 y131 x5_1).f2, (rd_T85 y131 x5_1).f3, (rd_T85 y131 x5_1).f4, (rd_T85 y131 x5_1).f5⟩ : S85) ) (fun _ hk => hk); have hx2004_1 := hcc2004 1 _ rfl; (try simp only [show (k85).sz = 6 from rfl, Nat.mul_one, Nat.add_zero] at hx2004_1); have hf2004_1 := hfr2004 1; (try simp only [show (k85).sz = 6 from rfl, Nat.mul_one, Nat.add_zero] at hf2004_1); clear hcl2004 hcc2004 hfr2004 hM2004) | ((with_reducible refine gate_store (t := 2) (p := 23) rfl ?_); refine store_event (t := 2) (p := 23) (v := ?_) (w1 := (w2003.setCell ⟨go1003, (x5_1 : Int).toNat * 6 + 1, none⟩ (.int .i64 (wrap64 (x1_1 + 1))))) ?hg ?ho ?hn ?hr ?_; (case ho => rfl); (case hg => rfl); (case hn => rfl); (case hr => first | (go_simp; done) | (go_simp; rfl)); intro w2005 hw; have hg : w2003.grownBy w2005 (some go1003) := (by rw [hw]; exact HP2004.2); have hp_ : Kd.R k85 85 w2005 w0.heap.size (fun k_ => (P0_ k_ ∨ w.heap.size ≤ k_)) (.slice (some ⟨go1003, 0, none⟩) x0_1.length co2001) y132 := (by rw [hw, Ny132.out]; exact HP2004.1); clear HP2004; have n0_ := Aside0.mk (hp_); have n1_ := Aside0.mk ((by rw [hw]; exact below_set (HB.out) GB1003.out : Below w0.heap.size w0 w2005)); have n2_ := Aside0.mk (Kept.of_grown (S := (fun k_ => P0_ k_)) hg (by repeat (first | (with_reducible first | exact HK.out | apply Kept.alloc | apply Kept.drewN | apply Kept.drew) | exact HK.out)) (fun k_ e_ => (HO_0.out.1 k_ e_))); clear HO_0; clear HB; clear HK; have HO_0 := n0_; have HB := n1_; have HK := n2_; clear n0_ n1_ n2_; clear hg hw hp_; have p1005 : 0 ≤ (x5_1 : Int) := of_decide_eq_true (by first | (with_reducible assumption) | assumption); have q1005 : (x5_1 : Int) < ((x0_1.length : Int) : Int) := of_decide_eq_true (by first | (with_reducible assumption) | assumption); obtain ⟨ce1005, hcl1005, hM1005, hcc1005, hfr1005⟩ := Kd.R_elem HO_0.out z85 (x5_1 : Int) p1005 q1005; obtain rfl := k85_openM hM1005; have hx1005_0 : w2005.cell? ⟨go1003, (x5_1 : Int).toNat * 6, none⟩ = some (.int .i64 ((rd_T85 y132 x5_1).f0)) := hcc1005 0 _ rfl; have hx1005_1 : w2005.cell? ⟨go1003, (x5_1 : Int).toNat * 6 + 1, none⟩ = some (.int .i64 ((rd_T85 y132 x5_1).f1)) := hcc1005 1 _ rfl; have hx1005_2 : w2005.cell? ⟨go1003, (x5_1 : Int).toNat * 6 + 2, none⟩ = some (.int .i64 ((rd_T85 y132 x5_1).f2)) := hcc1005 2 _ rfl; have hx1005_3 : w2005.cell? ⟨go1003, (x5_1 : Int).toNat * 6 + 3, none⟩ = some (.int .i64 ((rd_T85 y132 x5_1).f3)) := hcc1005 3 _ rfl; have hx1005_4 : w2005.cell? ⟨go1003, (x5_1 : Int).toNat * 6 + 4, none⟩ = some (.bool ((rd_T85 y132 x5_1).f4)) := hcc1005 4 _ rfl; have hx1005_5 : w2005.cell? ⟨go1003, (x5_1 : Int).toNat * 6 + 5, none⟩ = some (.bool ((rd_T85 y132 x5_1).f5)) := hcc1005 5 _ rfl; have hf1005_0 : w2005.frozen? ⟨go1003, (x5_1 : Int).toNat * 6, none⟩ = false := hfr1005 0; have hf1005_1 : w2005.frozen? ⟨go1003, (x5_1 : Int).toNat * 6 + 1, none⟩ = false := hfr1005 1; have hf1005_2 : w2005.frozen? ⟨go1003, (x5_1 : Int).toNat * 6 + 2, none⟩ = false := hfr1005 2; have hf1005_3 : w2005.frozen? ⟨go1003, (x5_1 : Int).toNat * 6 + 3, none⟩ = false := hfr1005 3; have hf1005_4 : w2005.frozen? ⟨go1003, (x5_1 : Int).toNat * 6 + 4, none⟩ = false := hfr1005 4; have hf1005_5 : w2005.frozen? ⟨go1003, (x5_1 : Int).toNat * 6 + 5, none⟩ = false := hfr1005 5; clear hcl1005 hcc1005 hfr1005 hM1005; replace p1005 := eq_true p1005; replace q1005 := eq_true q1005; have HX2006 := Aside0.mk (show Kd.R k85 85 w2005 w0.heap.size (fun k_ => (P0_ k_ ∨ w.heap.size ≤ k_)) (.slice (some ⟨go1003, 0, none⟩) x0_1.length co2001) y132 from (Rh HO_0)); obtain ⟨ce2006, hcl2006, hM2006, hcc2006, hfr2006⟩ := Kd.R_elem HX2006.out z85 (x5_1 : Int) (of_decide_eq_true (by first | (with_reducible assumption) | assumption)) (by have h_ : (x5_1 : Int) < ((x0_1.length : Int) : Int) := of_decide_eq_true (by first | (with_reducible assumption) | assumption); first | exact h_ | (have e_ := (Kd.R_reads' HO_0.out).1; omega) | simpa using h_); obtain rfl := k85_openM hM2006; have HP2006 := Kd.R_seg HX2006.out (x5_1 : Int) (of_decide_eq_true (by first | (with_reducible assumption) | assumption)) (by have h_ : (x5_1 : Int) < ((x0_1.length : Int) : Int) := of_decide_eq_true (by first | (with_reducible assumption) | assumption); first | exact h_ | (have e_ := (Kd.R_reads' HO_0.out).1; omega) | simpa using h_) (seg := [.int .i64 (wrap64 ((wrap64 (x1_1 + 1)) + 1))]) (j := 2) hcl2006 hcc2006 (show 3 ≤ 6 from by decide) (x' := (⟨(rd_T85 y132 x5_1).f0, (rd_T85 y132 x5_1).f1, wrap64 ((wrap64 (x1_1 + 1)) + 1), (rd_T85 y132 x5_1).f3, (rd_T85 y132 x5_1).f4, (rd_T85 y132 x5_1).f5⟩ : S85)) (k85_mkM _ _ _ (⟨(rd_T85 y132 x5_1).f0, (rd_T85 y132 x5_1).f1, wrap64 ((wrap64 (x1_1 + 1)) + 1), (rd_T85 y132 x5_1).f3, (rd_T85 y132 x5_1).f4, (rd_T85 y132 x5_1).f5⟩ : S85) ) (fun _ hk => hk); have hx2006_2 := hcc2006 2 _ rfl; (try simp only [show (k85).sz = 6 from rfl, Nat.mul_one, Nat.add_zero] at hx2006_2); have hf2006_2 := hfr2006 2; (try simp only [show (k85).sz = 6 from rfl, Nat.mul_one, Nat.add_zero] at hf2006_2); clear hcl2006 hcc2006 hfr2006 hM2006) | ((with_reducible refine gate_store (t := 2) (p := 30) rfl ?_); refine store_event (t := 2) (p := 30) (v := ?_) (w1 := (w2005.setCell ⟨go1003, (x5_1 : Int).toNat * 6 + 2, none⟩ (.int .i64 (wrap64 ((wrap64 (x1_1 + 1)) + 1))))) ?hg ?ho ?hn ?hr ?_; (case ho => rfl); (case hg => rfl); (case hn => rfl); (case hr => first | (go_simp; done) | (go_simp; rfl)); intro w2007 hw; have hg : w2005.grownBy w2007 (some go1003) := (by rw [hw]; exact HP2006.2); have hp_ : Kd.R k85 85 w2007 w0.heap.size (fun k_ => (P0_ k_ ∨ w.heap.size ≤ k_)) (.slice (some ⟨go1003, 0, none⟩) x0_1.length co2001) y133 := (by rw [hw, Ny133.out]; exact HP2006.1); clear HP2006; have n0_ := Aside0.mk (hp_); have n1_ := Aside0.mk ((by rw [hw]; exact below_set (HB.out) GB1003.out : Below w0.heap.size w0 w2007)); have n2_ := Aside0.mk (Kept.of_grown (S := (fun k_ => P0_ k_)) hg (by repeat (first | (with_reducible first | exact HK.out | apply Kept.alloc | apply Kept.drewN | apply Kept.drew) | exact HK.out)) (fun k_ e_ => (HO_0.out.1 k_ e_))); clear HO_0; clear HB; clear HK; have HO_0 := n0_; have HB := n1_; have HK := n2_; clear n0_ n1_ n2_; clear hg hw hp_; have p1006 : 0 ≤ (x5_1 : Int) := of_decide_eq_true (by first | (with_reducible assumption) | assumption); have q1006 : (x5_1 : Int) < ((x0_1.length : Int) : Int) := of_decide_eq_true (by first | (with_reducible assumption) | assumption); obtain ⟨ce1006, hcl1006, hM1006, hcc1006, hfr1006⟩ := Kd.R_elem HO_0.out z85 (x5_1 : Int) p1006 q1006; obtain rfl := k85_openM hM1006; have hx1006_0 : w2007.cell? ⟨go1003, (x5_1 : Int).toNat * 6, none⟩ = some (.int .i64 ((rd_T85 y133 x5_1).f0)) := hcc1006 0 _ rfl; have hx1006_1 : w2007.cell? ⟨go1003, (x5_1 : Int).toNat * 6 + 1, none⟩ = some (.int .i64 ((rd_T85 y133 x5_1).f1)) := hcc1006 1 _ rfl; have hx1006_2 : w2007.cell? ⟨go1003, (x5_1 : Int).toNat * 6 + 2, none⟩ = some (.int .i64 ((rd_T85 y133 x5_1).f2)) := hcc1006 2 _ rfl; have hx1006_3 : w2007.cell? ⟨go1003, (x5_1 : Int).toNat * 6 + 3, none⟩ = some (.int .i64 ((rd_T85 y133 x5_1).f3)) := hcc1006 3 _ rfl; have hx1006_4 : w2007.cell? ⟨go1003, (x5_1 : Int).toNat * 6 + 4, none⟩ = some (.bool ((rd_T85 y133 x5_1).f4)) := hcc1006 4 _ rfl; have hx1006_5 : w2007.cell? ⟨go1003, (x5_1 : Int).toNat * 6 + 5, none⟩ = some (.bool ((rd_T85 y133 x5_1).f5)) := hcc1006 5 _ rfl; have hf1006_0 : w2007.frozen? ⟨go1003, (x5_1 : Int).toNat * 6, none⟩ = false := hfr1006 0; have hf1006_1 : w2007.frozen? ⟨go1003, (x5_1 : Int).toNat * 6 + 1, none⟩ = false := hfr1006 1; have hf1006_2 : w2007.frozen? ⟨go1003, (x5_1 : Int).toNat * 6 + 2, none⟩ = false := hfr1006 2; have hf1006_3 : w2007.frozen? ⟨go1003, (x5_1 : Int).toNat * 6 + 3, none⟩ = false := hfr1006 3; have hf1006_4 : w2007.frozen? ⟨go1003, (x5_1 : Int).toNat * 6 + 4, none⟩ = false := hfr1006 4; have hf1006_5 : w2007.frozen? ⟨go1003, (x5_1 : Int).toNat * 6 + 5, none⟩ = false := hfr1006 5; clear hcl1006 hcc1006 hfr1006 hM1006; replace p1006 := eq_true p1006; replace q1006 := eq_true q1006; have HX2008 := Aside0.mk (show Kd.R k85 85 w2007 w0.heap.size (fun k_ => (P0_ k_ ∨ w.heap.size ≤ k_)) (.slice (some ⟨go1003, 0, none⟩) x0_1.length co2001) y133 from (Rh HO_0)); obtain ⟨ce2008, hcl2008, hM2008, hcc2008, hfr2008⟩ := Kd.R_elem HX2008.out z85 (x5_1 : Int) (of_decide_eq_true (by first | (with_reducible assumption) | assumption)) (by have h_ : (x5_1 : Int) < ((x0_1.length : Int) : Int) := of_decide_eq_true (by first | (with_reducible assumption) | assumption); first | exact h_ | (have e_ := (Kd.R_reads' HO_0.out).1; omega) | simpa using h_); obtain rfl := k85_openM hM2008; have HP2008 := Kd.R_seg HX2008.out (x5_1 : Int) (of_decide_eq_true (by first | (with_reducible assumption) | assumption)) (by have h_ : (x5_1 : Int) < ((x0_1.length : Int) : Int) := of_decide_eq_true (by first | (with_reducible assumption) | assumption); first | exact h_ | (have e_ := (Kd.R_reads' HO_0.out).1; omega) | simpa using h_) (seg := [.int .i64 (wrap64 ((wrap64 ((wrap64 (x1_1 + 1)) + 1)) + 1))]) (j := 3) hcl2008 hcc2008 (show 4 ≤ 6 from by decide) (x' := (⟨(rd_T85 y133 x5_1).f0, (rd_T85 y133 x5_1).f1, (rd_T85 y133 x5_1).f2, wrap64 ((wrap64 ((wrap64 (x1_1 + 1)) + 1)) + 1), (rd_T85 y133 x5_1).f4, (rd_T85 y133 x5_1).f5⟩ : S85)) (k85_mkM _ _ _ (⟨(rd_T85 y133 x5_1).f0, (rd_T85 y133 x5_1).f1, (rd_T85 y133 x5_1).f2, wrap64 ((wrap64 ((wrap64 (x1_1 + 1)) + 1)) + 1), (rd_T85 y133 x5_1).f4, (rd_T85 y133 x5_1).f5⟩ : S85) ) (fun _ hk => hk); have hx2008_3 := hcc2008 3 _ rfl; (try simp only [show (k85).sz = 6 from rfl, Nat.mul_one, Nat.add_zero] at hx2008_3); have hf2008_3 := hfr2008 3; (try simp only [show (k85).sz = 6 from rfl, Nat.mul_one, Nat.add_zero] at hf2008_3); clear hcl2008 hcc2008 hfr2008 hM2008) | ((with_reducible refine gate_store (t := 2) (p := 37) rfl ?_); refine store_event (t := 2) (p := 37) (v := ?_) (w1 := (w2007.setCell ⟨go1003, (x5_1 : Int).toNat * 6 + 3, none⟩ (.int .i64 (wrap64 ((wrap64 ((wrap64 (x1_1 + 1)) + 1)) + 1))))) ?hg ?ho ?hn ?hr ?_; (case ho => rfl); (case hg => rfl); (case hn => rfl); (case hr => first | (go_simp; done) | (go_simp; rfl)); intro w2009 hw; have hg : w2007.grownBy w2009 (some go1003) := (by rw [hw]; exact HP2008.2); have hp_ : Kd.R k85 85 w2009 w0.heap.size (fun k_ => (P0_ k_ ∨ w.heap.size ≤ k_)) (.slice (some ⟨go1003, 0, none⟩) x0_1.length co2001) y134 := (by rw [hw, Ny134.out]; exact HP2008.1); clear HP2008; have n0_ := Aside0.mk (hp_); have n1_ := Aside0.mk ((by rw [hw]; exact below_set (HB.out) GB1003.out : Below w0.heap.size w0 w2009)); have n2_ := Aside0.mk (Kept.of_grown (S := (fun k_ => P0_ k_)) hg (by repeat (first | (with_reducible first | exact HK.out | apply Kept.alloc | apply Kept.drewN | apply Kept.drew) | exact HK.out)) (fun k_ e_ => (HO_0.out.1 k_ e_))); clear HO_0; clear HB; clear HK; have HO_0 := n0_; have HB := n1_; have HK := n2_; clear n0_ n1_ n2_; clear hg hw hp_; have p1007 : 0 ≤ (x5_1 : Int) := of_decide_eq_true (by first | (with_reducible assumption) | assumption); have q1007 : (x5_1 : Int) < ((x0_1.length : Int) : Int) := of_decide_eq_true (by first | (with_reducible assumption) | assumption); obtain ⟨ce1007, hcl1007, hM1007, hcc1007, hfr1007⟩ := Kd.R_elem HO_0.out z85 (x5_1 : Int) p1007 q1007; obtain rfl := k85_openM hM1007; have hx1007_0 : w2009.cell? ⟨go1003, (x5_1 : Int).toNat * 6, none⟩ = some (.int .i64 ((rd_T85 y134 x5_1).f0)) := hcc1007 0 _ rfl; have hx1007_1 : w2009.cell? ⟨go1003, (x5_1 : Int).toNat * 6 + 1, none⟩ = some (.int .i64 ((rd_T85 y134 x5_1).f1)) := hcc1007 1 _ rfl; have hx1007_2 : w2009.cell? ⟨go1003, (x5_1 : Int).toNat * 6 + 2, none⟩ = some (.int .i64 ((rd_T85 y134 x5_1).f2)) := hcc1007 2 _ rfl; have hx1007_3 : w2009.cell? ⟨go1003, (x5_1 : Int).toNat * 6 + 3, none⟩ = some (.int .i64 ((rd_T85 y134 x5_1).f3)) := hcc1007 3 _ rfl; have hx1007_4 : w2009.cell? ⟨go1003, (x5_1 : Int).toNat * 6 + 4, none⟩ = some (.bool ((rd_T85 y134 x5_1).f4)) := hcc1007 4 _ rfl; have hx1007_5 : w2009.cell? ⟨go1003, (x5_1 : Int).toNat * 6 + 5, none⟩ = some (.bool ((rd_T85 y134 x5_1).f5)) := hcc1007 5 _ rfl; have hf1007_0 : w2009.frozen? ⟨go1003, (x5_1 : Int).toNat * 6, none⟩ = false := hfr1007 0; have hf1007_1 : w2009.frozen? ⟨go1003, (x5_1 : Int).toNat * 6 + 1, none⟩ = false := hfr1007 1; have hf1007_2 : w2009.frozen? ⟨go1003, (x5_1 : Int).toNat * 6 + 2, none⟩ = false := hfr1007 2; have hf1007_3 : w2009.frozen? ⟨go1003, (x5_1 : Int).toNat * 6 + 3, none⟩ = false := hfr1007 3; have hf1007_4 : w2009.frozen? ⟨go1003, (x5_1 : Int).toNat * 6 + 4, none⟩ = false := hfr1007 4; have hf1007_5 : w2009.frozen? ⟨go1003, (x5_1 : Int).toNat * 6 + 5, none⟩ = false := hfr1007 5; clear hcl1007 hcc1007 hfr1007 hM1007; replace p1007 := eq_true p1007; replace q1007 := eq_true q1007; have HX2010 := Aside0.mk (show Kd.R k85 85 w2009 w0.heap.size (fun k_ => (P0_ k_ ∨ w.heap.size ≤ k_)) (.slice (some ⟨go1003, 0, none⟩) x0_1.length co2001) y134 from (Rh HO_0)); obtain ⟨ce2010, hcl2010, hM2010, hcc2010, hfr2010⟩ := Kd.R_elem HX2010.out z85 (x5_1 : Int) (of_decide_eq_true (by first | (with_reducible assumption) | assumption)) (by have h_ : (x5_1 : Int) < ((x0_1.length : Int) : Int) := of_decide_eq_true (by first | (with_reducible assumption) | assumption); first | exact h_ | (have e_ := (Kd.R_reads' HO_0.out).1; omega) | simpa using h_); obtain rfl := k85_openM hM2010; have HP2010 := Kd.R_seg HX2010.out (x5_1 : Int) (of_decide_eq_true (by first | (with_reducible assumption) | assumption)) (by have h_ : (x5_1 : Int) < ((x0_1.length : Int) : Int) := of_decide_eq_true (by first | (with_reducible assumption) | assumption); first | exact h_ | (have e_ := (Kd.R_reads' HO_0.out).1; omega) | simpa using h_) (seg := [.bool ((Int.tmod (wrap64 ((wrap64 ((wrap64 ((wrap64 (x1_1 + 1)) + 1)) + 1)) + 1)) 3) == 0)]) (j := 4) hcl2010 hcc2010 (show 5 ≤ 6 from by decide) (x' := (⟨(rd_T85 y134 x5_1).f0, (rd_T85 y134 x5_1).f1, (rd_T85 y134 x5_1).f2, (rd_T85 y134 x5_1).f3, ((Int.tmod (wrap64 ((wrap64 ((wrap64 ((wrap64 (x1_1 + 1)) + 1)) + 1)) + 1)) 3) == 0), (rd_T85 y134 x5_1).f5⟩ : S85)) (k85_mkM _ _ _ (⟨(rd_T85 y134 x5_1).f0, (rd_T85 y134 x5_1).f1, (rd_T85 y134 x5_1).f2, (rd_T85 y134 x5_1).f3, ((Int.tmod (wrap64 ((wrap64 ((wrap64 ((wrap64 (x1_1 + 1)) + 1)) + 1)) + 1)) 3) == 0), (rd_T85 y134 x5_1).f5⟩ : S85) ) (fun _ hk => hk); have hx2010_4 := hcc2010 4 _ rfl; (try simp only [show (k85).sz = 6 from rfl, Nat.mul_one, Nat.add_zero] at hx2010_4); have hf2010_4 := hfr2010 4; (try simp only [show (k85).sz = 6 from rfl, Nat.mul_one, Nat.add_zero] at hf2010_4); clear hcl2010 hcc2010 hfr2010 hM2010) | ((with_reducible refine gate_store (t := 4) (p := 46) rfl ?_); refine store_event (t := 4) (p := 46) (v := ?_) (w1 := (w2009.setCell ⟨go1003, (x5_1 : Int).toNat * 6 + 4, none⟩ (.bool ((Int.tmod (wrap64 ((wrap64 ((wrap64 ((wrap64 (x1_1 + 1)) + 1)) + 1)) + 1)) 3) == 0)))) ?hg ?ho ?hn ?hr ?_; (case ho => rfl); (case hg => rfl); (case hn => rfl); (case hr => first | (go_simp; done) | (go_simp; rfl)); intro w2011 hw; have hg : w2009.grownBy w2011 (some go1003) := (by rw [hw]; exact HP2010.2); have hp_ : Kd.R k85 85 w2011 w0.heap.size (fun k_ => (P0_ k_ ∨ w.heap.size ≤ k_)) (.slice (some ⟨go1003, 0, none⟩) x0_1.length co2001) y135 := (by rw [hw, Ny135.out]; exact HP2010.1); clear HP2010; have n0_ := Aside0.mk (hp_); have n1_ := Aside0.mk ((by rw [hw]; exact below_set (HB.out) GB1003.out : Below w0.heap.size w0 w2011)); have n2_ := Aside0.mk (Kept.of_grown (S := (fun k_ => P0_ k_)) hg (by repeat (first | (with_reducible first | exact HK.out | apply Kept.alloc | apply Kept.drewN | apply Kept.drew) | exact HK.out)) (fun k_ e_ => (HO_0.out.1 k_ e_))); clear HO_0; clear HB; clear HK; have HO_0 := n0_; have HB := n1_; have HK := n2_; clear n0_ n1_ n2_; clear hg hw hp_; have p1008 : 0 ≤ (x5_1 : Int) := of_decide_eq_true (by first | (with_reducible assumption) | assumption); have q1008 : (x5_1 : Int) < ((x0_1.length : Int) : Int) := of_decide_eq_true (by first | (with_reducible assumption) | assumption); obtain ⟨ce1008, hcl1008, hM1008, hcc1008, hfr1008⟩ := Kd.R_elem HO_0.out z85 (x5_1 : Int) p1008 q1008; obtain rfl := k85_openM hM1008; have hx1008_0 : w2011.cell? ⟨go1003, (x5_1 : Int).toNat * 6, none⟩ = some (.int .i64 ((rd_T85 y135 x5_1).f0)) := hcc1008 0 _ rfl; have hx1008_1 : w2011.cell? ⟨go1003, (x5_1 : Int).toNat * 6 + 1, none⟩ = some (.int .i64 ((rd_T85 y135 x5_1).f1)) := hcc1008 1 _ rfl; have hx1008_2 : w2011.cell? ⟨go1003, (x5_1 : Int).toNat * 6 + 2, none⟩ = some (.int .i64 ((rd_T85 y135 x5_1).f2)) := hcc1008 2 _ rfl; have hx1008_3 : w2011.cell? ⟨go1003, (x5_1 : Int).toNat * 6 + 3, none⟩ = some (.int .i64 ((rd_T85 y135 x5_1).f3)) := hcc1008 3 _ rfl; have hx1008_4 : w2011.cell? ⟨go1003, (x5_1 : Int).toNat * 6 + 4, none⟩ = some (.bool ((rd_T85 y135 x5_1).f4)) := hcc1008 4 _ rfl; have hx1008_5 : w2011.cell? ⟨go1003, (x5_1 : Int).toNat * 6 + 5, none⟩ = some (.bool ((rd_T85 y135 x5_1).f5)) := hcc1008 5 _ rfl; have hf1008_0 : w2011.frozen? ⟨go1003, (x5_1 : Int).toNat * 6, none⟩ = false := hfr1008 0; have hf1008_1 : w2011.frozen? ⟨go1003, (x5_1 : Int).toNat * 6 + 1, none⟩ = false := hfr1008 1; have hf1008_2 : w2011.frozen? ⟨go1003, (x5_1 : Int).toNat * 6 + 2, none⟩ = false := hfr1008 2; have hf1008_3 : w2011.frozen? ⟨go1003, (x5_1 : Int).toNat * 6 + 3, none⟩ = false := hfr1008 3; have hf1008_4 : w2011.frozen? ⟨go1003, (x5_1 : Int).toNat * 6 + 4, none⟩ = false := hfr1008 4; have hf1008_5 : w2011.frozen? ⟨go1003, (x5_1 : Int).toNat * 6 + 5, none⟩ = false := hfr1008 5; clear hcl1008 hcc1008 hfr1008 hM1008; replace p1008 := eq_true p1008; replace q1008 := eq_true q1008; have HX2012 := Aside0.mk (show Kd.R k85 85 w2011 w0.heap.size (fun k_ => (P0_ k_ ∨ w.heap.size ≤ k_)) (.slice (some ⟨go1003, 0, none⟩) x0_1.length co2001) y135 from (Rh HO_0)); obtain ⟨ce2012, hcl2012, hM2012, hcc2012, hfr2012⟩ := Kd.R_elem HX2012.out z85 (x5_1 : Int) (of_decide_eq_true (by first | (with_reducible assumption) | assumption)) (by have h_ : (x5_1 : Int) < ((x0_1.length : Int) : Int) := of_decide_eq_true (by first | (with_reducible assumption) | assumption); first | exact h_ | (have e_ := (Kd.R_reads' HO_0.out).1; omega) | simpa using h_); obtain rfl := k85_openM hM2012; have HP2012 := Kd.R_seg HX2012.out (x5_1 : Int) (of_decide_eq_true (by first | (with_reducible assumption) | assumption)) (by have h_ : (x5_1 : Int) < ((x0_1.length : Int) : Int) := of_decide_eq_true (by first | (with_reducible assumption) | assumption); first | exact h_ | (have e_ := (Kd.R_reads' HO_0.out).1; omega) | simpa using h_) (seg := [.bool ((Int.tmod (wrap64 ((wrap64 ((wrap64 ((wrap64 ((wrap64 (x1_1 + 1)) + 1)) + 1)) + 1)) + 1)) 3) == 0)]) (j := 5) hcl2012 hcc2012 (show 6 ≤ 6 from by decide) (x' := (⟨(rd_T85 y135 x5_1).f0, (rd_T85 y135 x5_1).f1, (rd_T85 y135 x5_1).f2, (rd_T85 y135 x5_1).f3, (rd_T85 y135 x5_1).f4, ((Int.tmod (wrap64 ((wrap64 ((wrap64 ((wrap64 ((wrap64 (x1_1 + 1)) + 1)) + 1)) + 1)) + 1)) 3) == 0)⟩ : S85)) (k85_mkM _ _ _ (⟨(rd_T85 y135 x5_1).f0, (rd_T85 y135 x5_1).f1, (rd_T85 y135 x5_1).f2, (rd_T85 y135 x5_1).f3, (rd_T85 y135 x5_1).f4, ((Int.tmod (wrap64 ((wrap64 ((wrap64 ((wrap64 ((wrap64 (x1_1 + 1)) + 1)) + 1)) + 1)) + 1)) 3) == 0)⟩ : S85) ) (fun _ hk => hk); have hx2012_5 := hcc2012 5 _ rfl; (try simp only [show (k85).sz = 6 from rfl, Nat.mul_one, Nat.add_zero] at hx2012_5); have hf2012_5 := hfr2012 5; (try simp only [show (k85).sz = 6 from rfl, Nat.mul_one, Nat.add_zero] at hf2012_5); clear hcl2012 hcc2012 hfr2012 hM2012) | ((with_reducible refine gate_store (t := 4) (p := 55) rfl ?_); refine store_event (t := 4) (p := 55) (v := ?_) (w1 := (w2011.setCell ⟨go1003, (x5_1 : Int).toNat * 6 + 5, none⟩ (.bool ((Int.tmod (wrap64 ((wrap64 ((wrap64 ((wrap64 ((wrap64 (x1_1 + 1)) + 1)) + 1)) + 1)) + 1)) 3) == 0)))) ?hg ?ho ?hn ?hr ?_; (case ho => rfl); (case hg => rfl); (case hn => rfl); (case hr => first | (go_simp; done) | (go_simp; rfl)); intro w2013 hw; have hg : w2011.grownBy w2013 (some go1003) := (by rw [hw]; exact HP2012.2); have hp_ : Kd.R k85 85 w2013 w0.heap.size (fun k_ => (P0_ k_ ∨ w.heap.size ≤ k_)) (.slice (some ⟨go1003, 0, none⟩) x0_1.length co2001) y136 := (by rw [hw, Ny136.out]; exact HP2012.1); clear HP2012; have n0_ := Aside0.mk (hp_); have n1_ := Aside0.mk ((by rw [hw]; exact below_set (HB.out) GB1003.out : Below w0.heap.size w0 w2013)); have n2_ := Aside0.mk (Kept.of_grown (S := (fun k_ => P0_ k_)) hg (by repeat (first | (with_reducible first | exact HK.out | apply Kept.alloc | apply Kept.drewN | apply Kept.drew) | exact HK.out)) (fun k_ e_ => (HO_0.out.1 k_ e_))); clear HO_0; clear HB; clear HK; have HO_0 := n0_; have HB := n1_; have HK := n2_; clear n0_ n1_ n2_; clear hg hw hp_))
 go_roundg k1
 case measure => have := HK1.out; omega
 case rel => exact ⟨(y136), (wrap64 ((wrap64 ((wrap64 ((wrap64 ((wrap64 ((wrap64 (x1_1 + 1)) + 1)) + 1)) + 1)) + 1)) + 1)), (wrap64 (x5_1 + 1)), (by first | rfl | (simp; done) | (simp [*]; done)), (by first | rfl | (simp; done) | (simp [*]; done)), H', ⟨by have := HK1.out; omega⟩, ⟨Rh HO_0⟩, ⟨by repeat (first | (with_reducible first | exact HK.out | apply Kept.alloc | apply Kept.drewN | apply Kept.drew) | exact HK.out)⟩, ⟨wB⟩⟩
 }
 {
 rw [if_neg c1002] at H
 exact absurd H (by simp)
 }
 }
 {
 rw [if_neg c1001] at H
 have c1001b0 : decide (x5_1 < (x0_1.length : Int)) = false := decide_eq_false c1001
 clear c1001
 simp only [Option.some.injEq, Prod.mk.injEq] at H
 obtain ⟨rfl, rfl⟩ := H
 obtain ⟨Ao2001, co2001, eo2001⟩ := Kd.R_slice HO_0.out
 subst eo2001
 go_wp2
 go_ret
 exact ⟨by first | rfl | (simp [errW_none, errW_some] <;> rfl) | (simp [*, errW_none, errW_some] <;> rfl), by (with_reducible repeat (first | apply Kd.R_alloc | apply Kd.R_drewN | apply Kd.R_drew)); exact HO_0.out, wB, by repeat (first | (with_reducible first | exact HK.out | apply Kept.alloc | apply Kept.drewN | apply Kept.drew) | exact HK.out)⟩
 }
 }
 )

/-! ### laws_markBoard: function 41 -/
def laws_markBoard.f (k : Nat) (a0_0 : Int) (a0_1 : Int) (l0_2 : List (S85)) (a1 : Int) : Option (Int × (List (S85))) := (laws_markPieceS.f k l0_2 a1).bind fun bt138 => (some (bt138.1, bt138.2))
theorem laws_markBoard.mono : ∀ a0 a1 a2 a3 k, LeO (laws_markBoard.f k a0 a1 a2 a3) (laws_markBoard.f (k + 1) a0 a1 a2 a3) := by
  intro a0 a1 a2 a3 k
  unfold laws_markBoard.f
  repeat' first
      | (with_reducible exact laws_markPieceS.mono _ _ _)
      | (with_reducible exact LeO.refl _)
      | (with_reducible exact LeO.none _)
      | (with_reducible refine LeO.ite ?_ ?_)
      | (with_reducible refine LeO.bind ?_ (fun _ => ?_))
      | exact laws_markPieceS.mono _ _ _
      | exact LeO.none _
      | refine LeO.ite ?_ ?_
      | refine LeO.bind ?_ (fun _ => ?_)
set_option maxHeartbeats 60000000 in
set_option maxRecDepth 100000 in
theorem laws_markBoard.calls (k : Nat) (a0_0 : Int) (a0_1 : Int) (P0_2_ : Nat → Prop) (u9000_ : Value) (l0_2 : List (S85)) (a1 : Int) (r1 : Int) (r2 : List (S85)) (w0 w : World) (hB : Below w0.heap.size w0 w) (ho0_2 : Kd.R k85 85 w w0.heap.size P0_2_ u9000_ l0_2) (h : laws_markBoard.f k a0_0 a0_1 l0_2 a1 = some (r1, r2)) :
    Calls Try.prog 41 #[.agg #[.int .i64 a0_0, .int .i64 a0_1, u9000_], .int .i64 a1] w fun e w' => e = .returned (.int .i64 r1) ∧ Kd.R k85 85 w' w0.heap.size (fun k_ => (P0_2_ k_ ∨ w.heap.size ≤ k_)) u9000_ r2 ∧ Below w0.heap.size w0 w' ∧ Kept w w' (fun k_ => P0_2_ k_) := by
  have hu63 := Try.underlying63
  have HO0_2 := Aside0.mk (show Kd.R k85 85 w w0.heap.size (fun k_ => (P0_2_ k_ ∨ w.heap.size ≤ k_)) u9000_ l0_2 from Kd.R_mono ho0_2 (fun k_ hk => (.inl hk)))
  have HK := Aside0.mk (Kept.refl w (fun k_ => P0_2_ k_))
  have HW0 := Aside0.mk hB.size
  have HB := Aside0.mk hB
  clear hB
  have H : ((laws_markPieceS.f k l0_2 a1).bind fun bt138 => (some (bt138.1, bt138.2))) = some (r1, r2) := h
  clear h
  replace H := Option.bind_eq_some_iff.mp H
  obtain ⟨⟨t138, t139⟩, A30, H⟩ := H
  replace H : (some (t138, t139)) = some (r1, r2) := H
  have A3 := Aside0.mk A30
  clear A30
  simp only [Option.some.injEq, Prod.mk.injEq] at H
  obtain ⟨rfl, rfl⟩ := H
  obtain ⟨Ao1001, co1001, eo1001⟩ := Kd.R_slice HO0_2.out
  subst eo1001
  go_enter Try.func41, Try.ntmps41
  go_wp2_with (first | ((with_reducible refine gate_dst (N := 2) rfl ?_); refine box_event ?hg (N := 2) ?hd (cs := #[.int .i64 a0_0, .int .i64 a0_1, .slice Ao1001 l0_2.length co1001]) (t := 63) ?hr ?_; (case hd => rfl); (case hg => rfl); (case hr => first | (go_simp; done) | (go_simp; rfl)); intro gb137 hg w1002 hbox hb; have n0_ := Aside0.mk (Kd.R_below (Rh HO0_2) hb); have n1_ := Aside0.mk (Kept.below (S := (fun k_ => P0_2_ k_)) (by repeat (first | (with_reducible first | exact HK.out | apply Kept.alloc | apply Kept.drewN | apply Kept.drew) | exact HK.out)) hb); have n2_ := Aside0.mk (below_step wB hb); have n3_ := Aside0.mk (hbox); have n4_ := Aside0.mk ((by rw [hg]; exact (by first | exact HK.out.1 | exact (show Kept w _ (fun k_ => P0_2_ k_) from by repeat (first | (with_reducible first | exact HK.out | apply Kept.alloc | apply Kept.drewN | apply Kept.drew) | exact HK.out)).1) : w.heap.size ≤ gb137)); have n5_ := Aside0.mk ((by rw [hg]; exact (below_size wB) : w0.heap.size ≤ gb137)); clear HO0_2; clear HK; clear HB; have HO0_2 := n0_; have HK := n1_; have HB := n2_; have BK137 := n3_; have GW137 := n4_; have GE137 := n5_; clear n0_ n1_ n2_ n3_ n4_ n5_; clear hb hbox hg; obtain ⟨⟨hcz1003_0, hcz1003_1, hcz1003_2⟩, hfz1003_0, hfz1003_1, hfz1003_2⟩ := cells3 BK137.out) | ((with_reducible refine gate_callee (f := 90) rfl ?_); refine goesL_ (some 8) rfl rfl Try.func90 (by kernel_rfl) rfl #[.slice Ao1001 l0_2.length co1001, .int .i64 a1] rfl wT ?_; (with_reducible refine (laws_markPieceS.calls k (fun k_ => some k_ = (.slice Ao1001 l0_2.length co1001 : Value).ownBlock) (.slice Ao1001 l0_2.length co1001) l0_2 a1 t138 t139 w0 _ ?side1 ?side2 A3.out).mono ?_); (case side1 => repeat (first | (with_reducible first | exact HB.out | apply below_alloc | apply pw_below_drewN | apply below_drew1 | refine below_set ?_ GE137.out) | exact HB.out)); (case side2 => exact Kd.R_tight rfl HO0_2.out); rintro e w1004 ⟨rfl, hy0, hb, hkp⟩; refine ⟨_, rfl, ?_⟩; have n0_ := Aside0.mk (Kd.R_reok rfl hy0 (fun k_ e_ => HO0_2.out.1 k_ e_)); have n1_ := Aside0.mk (blk_kept (Bh BK137) hkp (fun hs_ => (fun e_ => (Kd.R_ne HO0_2.out BK137.out (by decide)) e_) hs_)); have n2_ := Aside0.mk (Kept.then_ (S := (fun k_ => P0_2_ k_)) (by repeat (first | (with_reducible first | exact HK.out | apply Kept.alloc | apply Kept.drewN | apply Kept.drew | refine Kept.setCell ?_ (.inr GW137.out) _) | exact HK.out)) hkp (fun k_ hs_ => (fun e_ => (HO0_2.out.1 k_ e_.symm)) hs_)); have n3_ := Aside0.mk (hb); clear HO0_2; clear BK137; clear HK; clear HB; have HO0_2 := n0_; have BK137 := n1_; have HK := n2_; have HB := n3_; clear n0_ n1_ n2_ n3_; (try clear hb); (try clear hkp); (try clear hy0)))
  go_ret
  exact ⟨by first | rfl | (simp [errW_none, errW_some] <;> rfl) | (simp [*, errW_none, errW_some] <;> rfl), by (with_reducible repeat (first | apply Kd.R_alloc | apply Kd.R_drewN | apply Kd.R_drew)); exact HO0_2.out, wB, by repeat (first | (with_reducible first | exact HK.out | apply Kept.alloc | apply Kept.drewN | apply Kept.drew | refine Kept.setCell ?_ (.inr GW137.out) _) | exact HK.out)⟩

/-! ### laws_heldPieceS: function 91 -/
def laws_heldPieceS.l0 : Nat → List (S85) → Int → Int → Option (Int)
  | 0, _, _, _ => none
  | k + 1, x0, x1, x5 => if x5 < (x0.length : Int) then (if 0 ≤ x5 then (if ((rd_T85 x0 x5).f0) = x1 then (if ((rd_T85 x0 x5).f1) = (wrap64 (x1 + 1)) then (if ((rd_T85 x0 x5).f2) = (wrap64 ((wrap64 (x1 + 1)) + 1)) then (if ((rd_T85 x0 x5).f3) = (wrap64 ((wrap64 ((wrap64 (x1 + 1)) + 1)) + 1)) then (if (((rd_T85 x0 x5).f4) != ((Int.tmod (wrap64 ((wrap64 ((wrap64 ((wrap64 (x1 + 1)) + 1)) + 1)) + 1)) 3) == 0)) = true then (some (-1)) else (if (((rd_T85 x0 x5).f5) != ((Int.tmod (wrap64 ((wrap64 ((wrap64 ((wrap64 ((wrap64 (x1 + 1)) + 1)) + 1)) + 1)) + 1)) 3) == 0)) = true then (some (-1)) else (laws_heldPieceS.l0 k x0 (wrap64 ((wrap64 ((wrap64 ((wrap64 ((wrap64 ((wrap64 (x1 + 1)) + 1)) + 1)) + 1)) + 1)) + 1)) (wrap64 (x5 + 1))))) else (some (-1))) else (some (-1))) else (some (-1))) else (some (-1))) else (none)) else (some x1)
def laws_heldPieceS.f (k : Nat) (l0 : List (S85)) (a1 : Int) : Option (Int) := laws_heldPieceS.l0 k l0 a1 0
theorem laws_heldPieceS.mono_l : ∀ k, (∀ y0 y1 y2, LeO (laws_heldPieceS.l0 k y0 y1 y2) (laws_heldPieceS.l0 (k + 1) y0 y1 y2))
  | 0 => fun _ _ _ r h => by simp [laws_heldPieceS.l0] at h
  | k + 1 => by
    have ih0 := laws_heldPieceS.mono_l k
    · intro y0 y1 y2
      unfold laws_heldPieceS.l0
      repeat' first
      | (with_reducible exact ih0 _ _ _)
      | (with_reducible exact LeO.refl _)
      | (with_reducible exact LeO.none _)
      | (with_reducible refine LeO.ite ?_ ?_)
      | (with_reducible refine LeO.bind ?_ (fun _ => ?_))
      | exact ih0 _ _ _
      | exact LeO.none _
      | refine LeO.ite ?_ ?_
      | refine LeO.bind ?_ (fun _ => ?_)
theorem laws_heldPieceS.mono : ∀ a0 a1 k, LeO (laws_heldPieceS.f k a0 a1) (laws_heldPieceS.f (k + 1) a0 a1) := by
 intro a0 a1 k
 have ih0 := laws_heldPieceS.mono_l k
 unfold laws_heldPieceS.f
 repeat' first
     | (with_reducible exact ih0 _ _ _)
     | (with_reducible exact LeO.refl _)
     | (with_reducible exact LeO.none _)
     | (with_reducible refine LeO.ite ?_ ?_)
     | (with_reducible refine LeO.bind ?_ (fun _ => ?_))
     | exact ih0 _ _ _
     | exact LeO.none _
     | refine LeO.ite ?_ ?_
     | refine LeO.bind ?_ (fun _ => ?_)
set_option maxHeartbeats 60000000 in
set_option maxRecDepth 100000 in
theorem laws_heldPieceS.calls (k : Nat) (A0 : Option Addr) (c0 : Nat) (l0 : List (S85)) (a1 : Int) (r : Int) (w : World) (hr0 : Kd.C k85 w A0 l0.length l0) (hc0 : l0.length ≤ c0) (h : laws_heldPieceS.f k l0 a1 = some r) :
 Calls Try.prog 91 #[.slice A0 l0.length c0, .int .i64 a1] w fun e w' => e = .returned (.int .i64 r) ∧ Drawn0 w w' := by
 have HR0 := Aside0.mk hr0
 have HC0 := Aside0.mk hc0
 clear hr0 hc0
 have H : (laws_heldPieceS.l0 k l0 a1 0) = some r := h
 clear h
 have H' := Aside0.mk H
 clear H
 go_enter Try.func91, Try.ntmps91
 go_wp2
 go_loopg [1, 5] k (fun kq v1 v5 w' => ∃ (x1_1 : Int) (x5_1 : Int), v1 = .int .i64 x1_1 ∧ v5 = .int .i64 x5_1 ∧ Aside0 (laws_heldPieceS.l0 kq l0 x1_1 x5_1 = some r) ∧ Aside0 (kq ≤ k) ∧ Drawn0 w w')
 case atStart => exact ⟨(a1), (0), (by first | rfl | (simp; done) | (simp [*]; done)), (by first | rfl | (simp; done) | (simp [*]; done)), H', ⟨Nat.le_refl _⟩, by repeat (first | exact Drawn0.refl _ | apply Drawn0.step)⟩
 case round => (
 clear H'
 obtain ⟨x1_1, x5_1, rfl, rfl, HA, HK1, ⟨m1, rfl⟩⟩ := hrel
 cases gk with
 | zero => exact absurd HA.out (by simp [laws_heldPieceS.l0])
 | succ k1 => {
 have H := HA.out
 clear HA
 simp only [laws_heldPieceS.l0] at H
 by_cases c1001 : x5_1 < (l0.length : Int)
 rw [if_pos c1001] at H
 have c1001b0 : decide (x5_1 < (l0.length : Int)) = true := decide_eq_true c1001
 clear c1001
 by_cases c1002 : 0 ≤ x5_1
 rw [if_pos c1002] at H
 have c1002b0 : decide (0 ≤ x5_1) = true := decide_eq_true c1002
 clear c1002
 by_cases c1003 : ((rd_T85 l0 x5_1).f0) = x1_1
 rw [if_pos c1003] at H
 have c1003b0 : (((rd_T85 l0 x5_1).f0) == x1_1) = true := beq_iff_eq.mpr c1003
 have c1003b1 : (((rd_T85 l0 x5_1).f0) != x1_1) = false := bne_eq_false_iff_eq.mpr c1003
 clear c1003
 by_cases c1004 : ((rd_T85 l0 x5_1).f1) = (wrap64 (x1_1 + 1))
 rw [if_pos c1004] at H
 have c1004b0 : (((rd_T85 l0 x5_1).f1) == (wrap64 (x1_1 + 1))) = true := beq_iff_eq.mpr c1004
 have c1004b1 : (((rd_T85 l0 x5_1).f1) != (wrap64 (x1_1 + 1))) = false := bne_eq_false_iff_eq.mpr c1004
 clear c1004
 by_cases c1005 : ((rd_T85 l0 x5_1).f2) = (wrap64 ((wrap64 (x1_1 + 1)) + 1))
 rw [if_pos c1005] at H
 have c1005b0 : (((rd_T85 l0 x5_1).f2) == (wrap64 ((wrap64 (x1_1 + 1)) + 1))) = true := beq_iff_eq.mpr c1005
 have c1005b1 : (((rd_T85 l0 x5_1).f2) != (wrap64 ((wrap64 (x1_1 + 1)) + 1))) = false := bne_eq_false_iff_eq.mpr c1005
 clear c1005
 by_cases c1006 : ((rd_T85 l0 x5_1).f3) = (wrap64 ((wrap64 ((wrap64 (x1_1 + 1)) + 1)) + 1))
 rw [if_pos c1006] at H
 have c1006b0 : (((rd_T85 l0 x5_1).f3) == (wrap64 ((wrap64 ((wrap64 (x1_1 + 1)) + 1)) + 1))) = true := beq_iff_eq.mpr c1006
 have c1006b1 : (((rd_T85 l0 x5_1).f3) != (wrap64 ((wrap64 ((wrap64 (x1_1 + 1)) + 1)) + 1))) = false := bne_eq_false_iff_eq.mpr c1006
 clear c1006
 by_cases c1007 : (((rd_T85 l0 x5_1).f4) != ((Int.tmod (wrap64 ((wrap64 ((wrap64 ((wrap64 (x1_1 + 1)) + 1)) + 1)) + 1)) 3) == 0)) = true
 rw [if_pos c1007] at H
 have c1007b0 : (((rd_T85 l0 x5_1).f4) != ((Int.tmod (wrap64 ((wrap64 ((wrap64 ((wrap64 (x1_1 + 1)) + 1)) + 1)) + 1)) 3) == 0)) = true := c1007
 (try (have c1007b1 : decide (((rd_T85 l0 x5_1).f4) = ((Int.tmod (wrap64 ((wrap64 ((wrap64 ((wrap64 (x1_1 + 1)) + 1)) + 1)) + 1)) 3) == 0)) = false := by simpa using c1007))
 (try (have c1007b2 : (((rd_T85 l0 x5_1).f4) == ((Int.tmod (wrap64 ((wrap64 ((wrap64 ((wrap64 (x1_1 + 1)) + 1)) + 1)) + 1)) 3) == 0)) = false := by simpa using c1007))
 (try (have c1007b3 : ¬ (((rd_T85 l0 x5_1).f4) = ((Int.tmod (wrap64 ((wrap64 ((wrap64 ((wrap64 (x1_1 + 1)) + 1)) + 1)) + 1)) 3) == 0)) := by simpa using c1007))
 clear c1007
 obtain rfl := Option.some.inj H
 rotate_left
 rw [if_neg c1007] at H
 have c1007b0 : (((rd_T85 l0 x5_1).f4) != ((Int.tmod (wrap64 ((wrap64 ((wrap64 ((wrap64 (x1_1 + 1)) + 1)) + 1)) + 1)) 3) == 0)) = false := by simpa using c1007
 (try (have c1007b1 : decide (((rd_T85 l0 x5_1).f4) = ((Int.tmod (wrap64 ((wrap64 ((wrap64 ((wrap64 (x1_1 + 1)) + 1)) + 1)) + 1)) 3) == 0)) = true := by simpa using c1007))
 (try (have c1007b2 : (((rd_T85 l0 x5_1).f4) == ((Int.tmod (wrap64 ((wrap64 ((wrap64 ((wrap64 (x1_1 + 1)) + 1)) + 1)) + 1)) 3) == 0)) = true := by simpa using c1007))
 clear c1007
 by_cases c1008 : (((rd_T85 l0 x5_1).f5) != ((Int.tmod (wrap64 ((wrap64 ((wrap64 ((wrap64 ((wrap64 (x1_1 + 1)) + 1)) + 1)) + 1)) + 1)) 3) == 0)) = true
 rw [if_pos c1008] at H
 have c1008b0 : (((rd_T85 l0 x5_1).f5) != ((Int.tmod (wrap64 ((wrap64 ((wrap64 ((wrap64 ((wrap64 (x1_1 + 1)) + 1)) + 1)) + 1)) + 1)) 3) == 0)) = true := c1008
 (try (have c1008b1 : decide (((rd_T85 l0 x5_1).f5) = ((Int.tmod (wrap64 ((wrap64 ((wrap64 ((wrap64 ((wrap64 (x1_1 + 1)) + 1)) + 1)) + 1)) + 1)) 3) == 0)) = false := by simpa using c1008))
 (try (have c1008b2 : (((rd_T85 l0 x5_1).f5) == ((Int.tmod (wrap64 ((wrap64 ((wrap64 ((wrap64 ((wrap64 (x1_1 + 1)) + 1)) + 1)) + 1)) + 1)) 3) == 0)) = false := by simpa using c1008))
 (try (have c1008b3 : ¬ (((rd_T85 l0 x5_1).f5) = ((Int.tmod (wrap64 ((wrap64 ((wrap64 ((wrap64 ((wrap64 (x1_1 + 1)) + 1)) + 1)) + 1)) + 1)) 3) == 0)) := by simpa using c1008))
 clear c1008
 obtain rfl := Option.some.inj H
 rotate_left
 rw [if_neg c1008] at H
 have c1008b0 : (((rd_T85 l0 x5_1).f5) != ((Int.tmod (wrap64 ((wrap64 ((wrap64 ((wrap64 ((wrap64 (x1_1 + 1)) + 1)) + 1)) + 1)) + 1)) 3) == 0)) = false := by simpa using c1008
 (try (have c1008b1 : decide (((rd_T85 l0 x5_1).f5) = ((Int.tmod (wrap64 ((wrap64 ((wrap64 ((wrap64 ((wrap64 (x1_1 + 1)) + 1)) + 1)) + 1)) + 1)) 3) == 0)) = true := by simpa using c1008))
 (try (have c1008b2 : (((rd_T85 l0 x5_1).f5) == ((Int.tmod (wrap64 ((wrap64 ((wrap64 ((wrap64 ((wrap64 (x1_1 + 1)) + 1)) + 1)) + 1)) + 1)) 3) == 0)) = true := by simpa using c1008))
 clear c1008
 have H' := Aside0.mk H
 clear H
 rotate_left
 rw [if_neg c1006] at H
 have c1006b0 : (((rd_T85 l0 x5_1).f3) == (wrap64 ((wrap64 ((wrap64 (x1_1 + 1)) + 1)) + 1))) = false := beq_eq_false_iff_ne.mpr c1006
 have c1006b1 : (((rd_T85 l0 x5_1).f3) != (wrap64 ((wrap64 ((wrap64 (x1_1 + 1)) + 1)) + 1))) = true := bne_iff_ne.mpr c1006
 obtain rfl := Option.some.inj H
 rotate_left
 rw [if_neg c1005] at H
 have c1005b0 : (((rd_T85 l0 x5_1).f2) == (wrap64 ((wrap64 (x1_1 + 1)) + 1))) = false := beq_eq_false_iff_ne.mpr c1005
 have c1005b1 : (((rd_T85 l0 x5_1).f2) != (wrap64 ((wrap64 (x1_1 + 1)) + 1))) = true := bne_iff_ne.mpr c1005
 obtain rfl := Option.some.inj H
 rotate_left
 rw [if_neg c1004] at H
 have c1004b0 : (((rd_T85 l0 x5_1).f1) == (wrap64 (x1_1 + 1))) = false := beq_eq_false_iff_ne.mpr c1004
 have c1004b1 : (((rd_T85 l0 x5_1).f1) != (wrap64 (x1_1 + 1))) = true := bne_iff_ne.mpr c1004
 obtain rfl := Option.some.inj H
 rotate_left
 rw [if_neg c1003] at H
 have c1003b0 : (((rd_T85 l0 x5_1).f0) == x1_1) = false := beq_eq_false_iff_ne.mpr c1003
 have c1003b1 : (((rd_T85 l0 x5_1).f0) != x1_1) = true := bne_iff_ne.mpr c1003
 obtain rfl := Option.some.inj H
 rotate_left
 rw [if_neg c1002] at H
 exact absurd H (by simp)
 rw [if_neg c1001] at H
 have c1001b0 : decide (x5_1 < (l0.length : Int)) = false := decide_eq_false c1001
 clear c1001
 obtain rfl := Option.some.inj H
 rotate_left
 iterate 7 (
 focus (
 have p140 : 0 ≤ (x5_1 : Int) := of_decide_eq_true (by first | (with_reducible assumption) | assumption)
 have q140 : x5_1 < (l0.length : Int) := of_decide_eq_true (by first | (with_reducible assumption) | assumption)
 obtain ⟨ad140, e140, hx140_0, hx140_1, hx140_2, hx140_3, hx140_4, hx140_5⟩ := at_T85 HR0.out x5_1 p140 q140
 cases e140
 replace p140 := eq_true p140
 replace q140 := eq_true q140
 )
 rotate_left
 )
 rotate_right 7
 iterate 6 (
 focus (
 have p141 : 0 ≤ (x5_1 : Int) := of_decide_eq_true (by first | (with_reducible assumption) | assumption)
 have q141 : x5_1 < (l0.length : Int) := of_decide_eq_true (by first | (with_reducible assumption) | assumption)
 obtain ⟨ad141, e141, hx141_0, hx141_1, hx141_2, hx141_3, hx141_4, hx141_5⟩ := at_T85 HR0.out x5_1 p141 q141
 obtain rfl : ad140 = ad141 := (by injection e141)
 replace p141 := eq_true p141
 replace q141 := eq_true q141
 )
 rotate_left
 )
 rotate_right 6
 iterate 5 (
 focus (
 have p142 : 0 ≤ (x5_1 : Int) := of_decide_eq_true (by first | (with_reducible assumption) | assumption)
 have q142 : x5_1 < (l0.length : Int) := of_decide_eq_true (by first | (with_reducible assumption) | assumption)
 obtain ⟨ad142, e142, hx142_0, hx142_1, hx142_2, hx142_3, hx142_4, hx142_5⟩ := at_T85 HR0.out x5_1 p142 q142
 obtain rfl : ad140 = ad142 := (by injection e142)
 replace p142 := eq_true p142
 replace q142 := eq_true q142
 )
 rotate_left
 )
 rotate_right 5
 iterate 4 (
 focus (
 have p143 : 0 ≤ (x5_1 : Int) := of_decide_eq_true (by first | (with_reducible assumption) | assumption)
 have q143 : x5_1 < (l0.length : Int) := of_decide_eq_true (by first | (with_reducible assumption) | assumption)
 obtain ⟨ad143, e143, hx143_0, hx143_1, hx143_2, hx143_3, hx143_4, hx143_5⟩ := at_T85 HR0.out x5_1 p143 q143
 obtain rfl : ad140 = ad143 := (by injection e143)
 replace p143 := eq_true p143
 replace q143 := eq_true q143
 )
 rotate_left
 )
 rotate_right 4
 iterate 3 (
 focus (
 have p144 : 0 ≤ (x5_1 : Int) := of_decide_eq_true (by first | (with_reducible assumption) | assumption)
 have q144 : x5_1 < (l0.length : Int) := of_decide_eq_true (by first | (with_reducible assumption) | assumption)
 obtain ⟨ad144, e144, hx144_0, hx144_1, hx144_2, hx144_3, hx144_4, hx144_5⟩ := at_T85 HR0.out x5_1 p144 q144
 obtain rfl : ad140 = ad144 := (by injection e144)
 replace p144 := eq_true p144
 replace q144 := eq_true q144
 )
 rotate_left
 )
 rotate_right 3
 {
 go_wp2
 go_ret
 exact ⟨by first | rfl | (simp; done) | (simp [*]; done), by repeat (first | exact Drawn0.refl _ | apply Drawn0.step)⟩
 }
 iterate 2 (
 focus (
 have p145 : 0 ≤ (x5_1 : Int) := of_decide_eq_true (by first | (with_reducible assumption) | assumption)
 have q145 : x5_1 < (l0.length : Int) := of_decide_eq_true (by first | (with_reducible assumption) | assumption)
 obtain ⟨ad145, e145, hx145_0, hx145_1, hx145_2, hx145_3, hx145_4, hx145_5⟩ := at_T85 HR0.out x5_1 p145 q145
 obtain rfl : ad140 = ad145 := (by injection e145)
 replace p145 := eq_true p145
 replace q145 := eq_true q145
 go_wp2
 )
 rotate_left
 )
 rotate_right 2
 {
 go_ret
 exact ⟨by first | rfl | (simp; done) | (simp [*]; done), by repeat (first | exact Drawn0.refl _ | apply Drawn0.step)⟩
 }
 {
 go_roundg k1
 case measure => have := HK1.out; omega
 case rel => exact ⟨(wrap64 ((wrap64 ((wrap64 ((wrap64 ((wrap64 ((wrap64 (x1_1 + 1)) + 1)) + 1)) + 1)) + 1)) + 1)), (wrap64 (x5_1 + 1)), (by first | rfl | (simp; done) | (simp [*]; done)), (by first | rfl | (simp; done) | (simp [*]; done)), H', ⟨by have := HK1.out; omega⟩, by repeat (first | exact Drawn0.refl _ | apply Drawn0.step)⟩
 }
 {
 go_wp2
 go_ret
 exact ⟨by first | rfl | (simp; done) | (simp [*]; done), by repeat (first | exact Drawn0.refl _ | apply Drawn0.step)⟩
 }
 {
 go_wp2
 go_ret
 exact ⟨by first | rfl | (simp; done) | (simp [*]; done), by repeat (first | exact Drawn0.refl _ | apply Drawn0.step)⟩
 }
 {
 go_wp2
 go_ret
 exact ⟨by first | rfl | (simp; done) | (simp [*]; done), by repeat (first | exact Drawn0.refl _ | apply Drawn0.step)⟩
 }
 {
 go_wp2
 go_ret
 exact ⟨by first | rfl | (simp; done) | (simp [*]; done), by repeat (first | exact Drawn0.refl _ | apply Drawn0.step)⟩
 }
 {
 go_wp2
 go_ret
 exact ⟨by first | rfl | (simp; done) | (simp [*]; done), by repeat (first | exact Drawn0.refl _ | apply Drawn0.step)⟩
 }
 }
 )

/-! ### laws_heldBoard: function 42 -/
def laws_heldBoard.f (k : Nat) (a0_0 : Int) (a0_1 : Int) (l0_2 : List (S85)) (a1 : Int) : Option (Int) := (laws_heldPieceS.f k l0_2 a1).bind fun t147 => (if t147 < 0 then (some (-1)) else (some t147))
theorem laws_heldBoard.mono : ∀ a0 a1 a2 a3 k, LeO (laws_heldBoard.f k a0 a1 a2 a3) (laws_heldBoard.f (k + 1) a0 a1 a2 a3) := by
  intro a0 a1 a2 a3 k
  unfold laws_heldBoard.f
  repeat' first
      | (with_reducible exact laws_heldPieceS.mono _ _ _)
      | (with_reducible exact LeO.refl _)
      | (with_reducible exact LeO.none _)
      | (with_reducible refine LeO.ite ?_ ?_)
      | (with_reducible refine LeO.bind ?_ (fun _ => ?_))
      | exact laws_heldPieceS.mono _ _ _
      | exact LeO.none _
      | refine LeO.ite ?_ ?_
      | refine LeO.bind ?_ (fun _ => ?_)
set_option maxHeartbeats 60000000 in
set_option maxRecDepth 100000 in
theorem laws_heldBoard.calls (k : Nat) (a0_0 : Int) (a0_1 : Int) (A0_2 : Option Addr) (c0_2 : Nat) (l0_2 : List (S85)) (a1 : Int) (r : Int) (w : World) (hr0_2 : Kd.C k85 w A0_2 l0_2.length l0_2) (hc0_2 : l0_2.length ≤ c0_2) (h : laws_heldBoard.f k a0_0 a0_1 l0_2 a1 = some r) :
    Calls Try.prog 42 #[.agg #[.int .i64 a0_0, .int .i64 a0_1, .slice A0_2 l0_2.length c0_2], .int .i64 a1] w fun e w' => e = .returned (.int .i64 r) ∧ Below w.heap.size w w' := by
  have hu63 := Try.underlying63
  have HR0_2 := Aside0.mk hr0_2
  have HC0_2 := Aside0.mk hc0_2
  clear hr0_2 hc0_2
  have HB := Aside0.mk (Below.refl w.heap.size w)
  have H : ((laws_heldPieceS.f k l0_2 a1).bind fun t147 => (if t147 < 0 then (some (-1)) else (some t147))) = some r := h
  clear h
  replace H := Option.bind_eq_some_iff.mp H
  obtain ⟨t147, A30, H⟩ := H
  replace H : (if t147 < 0 then (some (-1)) else (some t147)) = some r := H
  have A3 := Aside0.mk A30
  clear A30
  by_cases c4 : t147 < 0
  · rw [if_pos c4] at H
    have c4b0 : decide (t147 < 0) = true := decide_eq_true c4
    clear c4
    obtain rfl := Option.some.inj H
    go_enter Try.func42, Try.ntmps42
    go_wp2_with (first | ((with_reducible refine gate_dst (N := 2) rfl ?_); refine box_event ?hg (N := 2) ?hd (cs := #[.int .i64 a0_0, .int .i64 a0_1, .slice A0_2 l0_2.length c0_2]) (t := 63) ?hr ?_; (case hd => rfl); (case hg => rfl); (case hr => first | (go_simp; done) | (go_simp; rfl)); intro gb146 hg w1001 hbox hb; have n0_ := Aside0.mk (below_step wB hb); have n1_ := Aside0.mk (hbox); have n2_ := Aside0.mk ((by rw [hg]; exact (below_size wB) : w.heap.size ≤ gb146)); have n3_ := Aside0.mk ((by rw [hg]; exact (below_size wB) : w.heap.size ≤ gb146)); clear HB; have HB := n0_; have BK146 := n1_; have GW146 := n2_; have GE146 := n3_; clear n0_ n1_ n2_ n3_; clear hb hbox hg; obtain ⟨⟨hcz1002_0, hcz1002_1, hcz1002_2⟩, hfz1002_0, hfz1002_1, hfz1002_2⟩ := cells3 BK146.out) | ((with_reducible refine gate_callee (f := 91) rfl ?_); refine goesL_ (some 8) rfl rfl Try.func91 (by kernel_rfl) rfl #[.slice A0_2 l0_2.length c0_2, .int .i64 a1] rfl wT ?_; (with_reducible refine (laws_heldPieceS.calls k _ _ l0_2 a1 t147 _ ?side1 ?side2 A3.out).mono ?_); (case side1 => exact Kd.C_below HR0_2.out wB); (case side2 => exact HC0_2.out); rintro e w' ⟨rfl, ⟨nd, rfl⟩⟩; refine ⟨_, rfl, ?_⟩))
    go_ret
    exact ⟨by first | rfl | (simp [errW_none, errW_some] <;> rfl) | (simp [*, errW_none, errW_some] <;> rfl), wB⟩
  · rw [if_neg c4] at H
    have c4b0 : decide (t147 < 0) = false := decide_eq_false c4
    clear c4
    obtain rfl := Option.some.inj H
    go_enter Try.func42, Try.ntmps42
    go_wp2_with (first | ((with_reducible refine gate_dst (N := 2) rfl ?_); refine box_event ?hg (N := 2) ?hd (cs := #[.int .i64 a0_0, .int .i64 a0_1, .slice A0_2 l0_2.length c0_2]) (t := 63) ?hr ?_; (case hd => rfl); (case hg => rfl); (case hr => first | (go_simp; done) | (go_simp; rfl)); intro gb146 hg w1001 hbox hb; have n0_ := Aside0.mk (below_step wB hb); have n1_ := Aside0.mk (hbox); have n2_ := Aside0.mk ((by rw [hg]; exact (below_size wB) : w.heap.size ≤ gb146)); have n3_ := Aside0.mk ((by rw [hg]; exact (below_size wB) : w.heap.size ≤ gb146)); clear HB; have HB := n0_; have BK146 := n1_; have GW146 := n2_; have GE146 := n3_; clear n0_ n1_ n2_ n3_; clear hb hbox hg; obtain ⟨⟨hcz1002_0, hcz1002_1, hcz1002_2⟩, hfz1002_0, hfz1002_1, hfz1002_2⟩ := cells3 BK146.out) | ((with_reducible refine gate_callee (f := 91) rfl ?_); refine goesL_ (some 8) rfl rfl Try.func91 (by kernel_rfl) rfl #[.slice A0_2 l0_2.length c0_2, .int .i64 a1] rfl wT ?_; (with_reducible refine (laws_heldPieceS.calls k _ _ l0_2 a1 t147 _ ?side1 ?side2 A3.out).mono ?_); (case side1 => exact Kd.C_below HR0_2.out wB); (case side2 => exact HC0_2.out); rintro e w' ⟨rfl, ⟨nd, rfl⟩⟩; refine ⟨_, rfl, ?_⟩))
    go_ret
    exact ⟨by first | rfl | (simp [errW_none, errW_some] <;> rfl) | (simp [*, errW_none, errW_some] <;> rfl), wB⟩

/-! ### spec_l01In: function 73 -/
def spec_l01In.f (a0 : Int) (a1 : Int) (a2 : Int) : Option (Bool) := if a0 ≥ a1 then (some (decide (a0 ≤ a2))) else (some false)
set_option maxHeartbeats 60000000 in
set_option maxRecDepth 100000 in
theorem spec_l01In.calls (a0 : Int) (a1 : Int) (a2 : Int) (r : Bool) (w : World) (h : spec_l01In.f a0 a1 a2 = some r) :
    Calls Try.prog 73 #[.int .i64 a0, .int .i64 a1, .int .i64 a2] w fun e w' => e = .returned (.bool r) ∧ Drawn0 w w' := by
  have H : (if a0 ≥ a1 then (some (decide (a0 ≤ a2))) else (some false)) = some r := h
  clear h
  by_cases c4 : a0 ≥ a1
  · rw [if_pos c4] at H
    have c4b0 : decide (a1 ≤ a0) = true := decide_eq_true c4
    clear c4
    obtain rfl := Option.some.inj H
    go_enter Try.func73, Try.ntmps73
    go_wp2
    go_ret
    exact ⟨by first | rfl | (simp; done) | (simp [*]; done), by repeat (first | exact Drawn0.refl _ | apply Drawn0.step)⟩
  · rw [if_neg c4] at H
    have c4b0 : decide (a1 ≤ a0) = false := decide_eq_false c4
    clear c4
    obtain rfl := Option.some.inj H
    go_enter Try.func73, Try.ntmps73
    go_wp2
    go_ret
    exact ⟨by first | rfl | (simp; done) | (simp [*]; done), by repeat (first | exact Drawn0.refl _ | apply Drawn0.step)⟩

/-! ### spec_l14Min: function 75 -/
def spec_l14Min.f (a0 : Int) (a1 : Int) : Option (Int) := if a0 < a1 then (some a0) else (some a1)
set_option maxHeartbeats 60000000 in
set_option maxRecDepth 100000 in
theorem spec_l14Min.calls (a0 : Int) (a1 : Int) (r : Int) (w : World) (h : spec_l14Min.f a0 a1 = some r) :
    Calls Try.prog 75 #[.int .i64 a0, .int .i64 a1] w fun e w' => e = .returned (.int .i64 r) ∧ Drawn0 w w' := by
  have H : (if a0 < a1 then (some a0) else (some a1)) = some r := h
  clear h
  by_cases c3 : a0 < a1
  · rw [if_pos c3] at H
    have c3b0 : decide (a0 < a1) = true := decide_eq_true c3
    clear c3
    obtain rfl := Option.some.inj H
    go_enter Try.func75, Try.ntmps75
    go_wp2
    go_ret
    exact ⟨by first | rfl | (simp; done) | (simp [*]; done), by repeat (first | exact Drawn0.refl _ | apply Drawn0.step)⟩
  · rw [if_neg c3] at H
    have c3b0 : decide (a0 < a1) = false := decide_eq_false c3
    clear c3
    obtain rfl := Option.some.inj H
    go_enter Try.func75, Try.ntmps75
    go_wp2
    go_ret
    exact ⟨by first | rfl | (simp; done) | (simp [*]; done), by repeat (first | exact Drawn0.refl _ | apply Drawn0.step)⟩

end Go.Proofs.Ytkfbcmbemihbnaa.PFnExactBoardAgain
