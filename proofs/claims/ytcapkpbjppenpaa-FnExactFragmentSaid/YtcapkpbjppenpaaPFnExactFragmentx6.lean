-- Written for this claim by a program of this session (wip/mkprint.py: the print, turned at a few places). Not trusted: Lean checks it.
import Derived.Test.YtcapkpbjppenpaaPFnExactFragmentx0
import Derived.Test.YtcapkpbjppenpaaPFnExactFragmentx5
namespace Go.Proofs.Ytcapkpbjppenpaa.PFnExactFragment
open Go.RowKit Go.Proofs.YtcapkpbjppenpaaW.PrintWords Go.Proofs.YtcapkpbjppenpaaW.PrintLast Go.Proofs.YtcapkpbjppenpaaW.PrintMore
attribute [local go_sem] max2_int min2_int max_two min_two max_three min_three max_four min_four   -- for this text's walks alone
set_option linter.unusedVariables false
set_option linter.unusedSimpArgs false

/-! ### laws_eqPacketS: function 8 -/
def laws_eqPacketS.l0 : Nat → List (S29) → List (S29) → Int → Option (Bool)
  | 0, _, _, _ => none
  | k + 1, x0, x1, x5 => if x5 < (x0.length : Int) then (if 0 ≤ x5 then (if x5 < (x1.length : Int) then ((laws_eqPacket.f k ((rd_T29 x0 x5).f0) ((rd_T29 x0 x5).f1) ((rd_T29 x0 x5).f2) ((rd_T29 x0 x5).f3) ((rd_T29 x0 x5).f4) ((rd_T29 x0 x5).f5) ((rd_T29 x0 x5).f6) ((rd_T29 x0 x5).f7) ((rd_T29 x0 x5).f8) ((rd_T29 x0 x5).f9) ((rd_T29 x0 x5).f10) ((rd_T29 x1 x5).f0) ((rd_T29 x1 x5).f1) ((rd_T29 x1 x5).f2) ((rd_T29 x1 x5).f3) ((rd_T29 x1 x5).f4) ((rd_T29 x1 x5).f5) ((rd_T29 x1 x5).f6) ((rd_T29 x1 x5).f7) ((rd_T29 x1 x5).f8) ((rd_T29 x1 x5).f9) ((rd_T29 x1 x5).f10)).bind fun t299 => (if t299 = true then (laws_eqPacketS.l0 k x0 x1 (wrap64 (x5 + 1))) else (some false))) else (none)) else (none)) else (some true)
def laws_eqPacketS.f (k : Nat) (l0 : List (S29)) (l1 : List (S29)) : Option (Bool) := if (l0.length : Int) = (l1.length : Int) then (laws_eqPacketS.l0 k l0 l1 0) else (some false)
theorem laws_eqPacketS.mono_l : ∀ k, (∀ y0 y1 y2, LeO (laws_eqPacketS.l0 k y0 y1 y2) (laws_eqPacketS.l0 (k + 1) y0 y1 y2))
  | 0 => fun _ _ _ r h => by simp [laws_eqPacketS.l0] at h
  | k + 1 => by
    have ih0 := laws_eqPacketS.mono_l k
    · intro y0 y1 y2
      unfold laws_eqPacketS.l0
      repeat' first
      | (with_reducible exact ih0 _ _ _)
      | (with_reducible exact laws_eqPacket.mono _ _ _ _ _ _ _ _ _ _ _ _ _ _ _ _ _ _ _ _ _ _ _)
      | (with_reducible exact LeO.refl _)
      | (with_reducible exact LeO.none _)
      | (with_reducible refine LeO.ite ?_ ?_)
      | (with_reducible refine LeO.bind ?_ (fun _ => ?_))
      | exact ih0 _ _ _
      | exact laws_eqPacket.mono _ _ _ _ _ _ _ _ _ _ _ _ _ _ _ _ _ _ _ _ _ _ _
      | exact LeO.none _
      | refine LeO.ite ?_ ?_
      | refine LeO.bind ?_ (fun _ => ?_)
theorem laws_eqPacketS.mono : ∀ a0 a1 k, LeO (laws_eqPacketS.f k a0 a1) (laws_eqPacketS.f (k + 1) a0 a1) := by
 intro a0 a1 k
 have ih0 := laws_eqPacketS.mono_l k
 unfold laws_eqPacketS.f
 repeat' first
     | (with_reducible exact ih0 _ _ _)
     | (with_reducible exact laws_eqPacket.mono _ _ _ _ _ _ _ _ _ _ _ _ _ _ _ _ _ _ _ _ _ _ _)
     | (with_reducible exact LeO.refl _)
     | (with_reducible exact LeO.none _)
     | (with_reducible refine LeO.ite ?_ ?_)
     | (with_reducible refine LeO.bind ?_ (fun _ => ?_))
     | exact ih0 _ _ _
     | exact laws_eqPacket.mono _ _ _ _ _ _ _ _ _ _ _ _ _ _ _ _ _ _ _ _ _ _ _
     | exact LeO.none _
     | refine LeO.ite ?_ ?_
     | refine LeO.bind ?_ (fun _ => ?_)
def laws_eqPacketS.T6 : Bool × List (List Nat × List Nat) := (true, [([], []), ([], []), ([0, 1], [0, 1]), ([2], [2]), ([], []), ([], []), ([4, 5], [4, 5]), ([6], [6]), ([3, 7], [3, 7]), ([8], [8])])
def laws_eqPacketS.B6 : List Nat := [0, 0, 3, 7, 0, 0, 48, 112, 255, 511]
theorem laws_eqPacketS.tab6 : rtab .any (opsOf Try.f8 6) = laws_eqPacketS.T6 := by kernel_rfl
theorem laws_eqPacketS.bits6 : waitsOk laws_eqPacketS.T6.2 laws_eqPacketS.B6 = true := by kernel_rfl
set_option maxHeartbeats 60000000 in
set_option maxRecDepth 100000 in
theorem laws_eqPacketS.calls (k : Nat) (A0 : Option Addr) (c0 : Nat) (l0 : List (S29)) (A1 : Option Addr) (c1 : Nat) (l1 : List (S29)) (r : Bool) (w : World) (hr0 : Kd.C k29 w A0 l0.length l0) (hc0 : l0.length ≤ c0) (hr1 : Kd.C k29 w A1 l1.length l1) (hc1 : l1.length ≤ c1) (h : laws_eqPacketS.f k l0 l1 = some r) :
 Calls Try.prog 8 #[.slice A0 l0.length c0, .slice A1 l1.length c1] w fun e w' => e = .returned (.bool r) ∧ Below w.heap.size w w' := by
 have hu29 := Try.underlying29
 have HR0 := Aside0.mk hr0
 have HC0 := Aside0.mk hc0
 clear hr0 hc0
 have HR1 := Aside0.mk hr1
 have HC1 := Aside0.mk hc1
 clear hr1 hc1
 have HB := Aside0.mk (Below.refl w.heap.size w)
 have H : (if (l0.length : Int) = (l1.length : Int) then (laws_eqPacketS.l0 k l0 l1 0) else (some false)) = some r := h
 clear h
 by_cases c3 : (l0.length : Int) = (l1.length : Int)
 {
 rw [if_pos c3] at H
 have c3b0 : ((l0.length : Int) == (l1.length : Int)) = true := beq_iff_eq.mpr c3
 have c3b1 : ((l0.length : Int) != (l1.length : Int)) = false := bne_eq_false_iff_eq.mpr c3
 have c3b2 : (l0.length == l1.length) = true := by first | simpa using c3 | (simp at c3 ⊢; omega)
 clear c3
 have H' := Aside0.mk H
 clear H
 go_enter Try.func8, Try.ntmps8
 go_wp2
 go_loopg [5] k (fun kq v5 w' => ∃ (x5_1 : Int), v5 = .int .i64 x5_1 ∧ Aside0 (laws_eqPacketS.l0 kq l0 l1 x5_1 = some r) ∧ Aside0 (kq ≤ k) ∧ Aside0 (Below w.heap.size w w'))
 case atStart => exact ⟨(0), (by first | rfl | (simp; done) | (simp [*]; done)), H', ⟨Nat.le_refl _⟩, ⟨wB⟩⟩
 case round => (
 clear H'
 try clear c3
 try clear c3b0
 try clear c3b1
 try clear c3b2
 obtain ⟨x5_1, rfl, HA, HK1, HB⟩ := hrel
 cases gk with
 | zero => exact absurd HA.out (by simp [laws_eqPacketS.l0])
 | succ k1 => {
 have H := HA.out
 clear HA
 simp only [laws_eqPacketS.l0] at H
 by_cases c1001 : x5_1 < (l0.length : Int)
 rw [if_pos c1001] at H
 have c1001b0 : decide (x5_1 < (l0.length : Int)) = true := decide_eq_true c1001
 clear c1001
 by_cases c1002 : 0 ≤ x5_1
 rw [if_pos c1002] at H
 have c1002b0 : decide (0 ≤ x5_1) = true := decide_eq_true c1002
 clear c1002
 by_cases c1003 : x5_1 < (l1.length : Int)
 rw [if_pos c1003] at H
 have c1003b0 : decide (x5_1 < (l1.length : Int)) = true := decide_eq_true c1003
 clear c1003
 replace H := Option.bind_eq_some_iff.mp H
 obtain ⟨t299, A10040, H⟩ := H
 replace H : (if t299 = true then (laws_eqPacketS.l0 k1 l0 l1 (wrap64 (x5_1 + 1))) else (some false)) = some r := H
 have A1004 := Aside0.mk A10040
 clear A10040
 by_cases c1005 : t299 = true
 subst c1005
 have H1 : (laws_eqPacketS.l0 k1 l0 l1 (wrap64 (x5_1 + 1))) = some r := by rw [if_pos rfl] at H; exact H
 clear H
 have H := H1
 clear H1
 have H' := Aside0.mk H
 clear H
 have bq1_ : True := trivial
 rotate_left
 replace c1005 := Bool.eq_false_iff.mpr c1005
 subst c1005
 have H1 : (some false) = some r := by rw [if_neg (show ¬ (false = true) by decide)] at H; exact H
 clear H
 have H := H1
 clear H1
 obtain rfl := Option.some.inj H
 rotate_left
 rw [if_neg c1003] at H
 exact absurd H (by simp)
 rw [if_neg c1002] at H
 exact absurd H (by simp)
 rw [if_neg c1001] at H
 have c1001b0 : decide (x5_1 < (l0.length : Int)) = false := decide_eq_false c1001
 clear c1001
 obtain rfl := Option.some.inj H
 rotate_left
 all_goals (
 try go_wp2
 )
 iterate 2 (
 focus (
 have n0_ := Aside0.mk (below_drew1 HB.out)
 clear HB
 have HB := n0_
 clear n0_
 have p297 : 0 ≤ (x5_1 : Int) := of_decide_eq_true (by first | (with_reducible assumption) | assumption)
 have q297 : x5_1 < (l0.length : Int) := of_decide_eq_true (by first | (with_reducible assumption) | assumption)
 obtain ⟨ad297, A297_9, c297_9, A297_10, c297_10, e297, hx297_0, hx297_1, hx297_2, hx297_3, hx297_4, hx297_5, hx297_6, hx297_7, hx297_8, hx297_9, hx297_10, hl297_9, hi297_9, hl297_10, hi297_10⟩ := at_T29 HR0.out x5_1 p297 q297
 have hw297_10 := hx297_10
 have hw297_9 := hx297_9
 have hw297_8 := hx297_8
 have hw297_7 := hx297_7
 have hw297_6 := hx297_6
 have hw297_5 := hx297_5
 have hw297_4 := hx297_4
 have hw297_3 := hx297_3
 have hw297_2 := hx297_2
 have hw297_1 := hx297_1
 have hw297_0 := hx297_0
 cases e297
 replace hx297_0 := (HB.out.cell (World.block_lt_of_cell? w _ hx297_0)).trans hx297_0
 replace hx297_1 := (HB.out.cell (World.block_lt_of_cell? w _ hx297_1)).trans hx297_1
 replace hx297_2 := (HB.out.cell (World.block_lt_of_cell? w _ hx297_2)).trans hx297_2
 replace hx297_3 := (HB.out.cell (World.block_lt_of_cell? w _ hx297_3)).trans hx297_3
 replace hx297_4 := (HB.out.cell (World.block_lt_of_cell? w _ hx297_4)).trans hx297_4
 replace hx297_5 := (HB.out.cell (World.block_lt_of_cell? w _ hx297_5)).trans hx297_5
 replace hx297_6 := (HB.out.cell (World.block_lt_of_cell? w _ hx297_6)).trans hx297_6
 replace hx297_7 := (HB.out.cell (World.block_lt_of_cell? w _ hx297_7)).trans hx297_7
 replace hx297_8 := (HB.out.cell (World.block_lt_of_cell? w _ hx297_8)).trans hx297_8
 replace hx297_9 := (HB.out.cell (World.block_lt_of_cell? w _ hx297_9)).trans hx297_9
 replace hx297_10 := (HB.out.cell (World.block_lt_of_cell? w _ hx297_10)).trans hx297_10
 have HR297_9 := Aside0.mk hi297_9
 have HC297_9 := Aside0.mk hl297_9
 clear hi297_9 hl297_9
 have HR297_10 := Aside0.mk hi297_10
 have HC297_10 := Aside0.mk hl297_10
 clear hi297_10 hl297_10
 replace p297 := eq_true p297
 replace q297 := eq_true q297
 have p298 : 0 ≤ (x5_1 : Int) := of_decide_eq_true (by first | (with_reducible assumption) | assumption)
 have q298 : x5_1 < (l1.length : Int) := of_decide_eq_true (by first | (with_reducible assumption) | assumption)
 obtain ⟨ad298, A298_9, c298_9, A298_10, c298_10, e298, hx298_0, hx298_1, hx298_2, hx298_3, hx298_4, hx298_5, hx298_6, hx298_7, hx298_8, hx298_9, hx298_10, hl298_9, hi298_9, hl298_10, hi298_10⟩ := at_T29 HR1.out x5_1 p298 q298
 have hw298_10 := hx298_10
 have hw298_9 := hx298_9
 have hw298_8 := hx298_8
 have hw298_7 := hx298_7
 have hw298_6 := hx298_6
 have hw298_5 := hx298_5
 have hw298_4 := hx298_4
 have hw298_3 := hx298_3
 have hw298_2 := hx298_2
 have hw298_1 := hx298_1
 have hw298_0 := hx298_0
 cases e298
 replace hx298_0 := (HB.out.cell (World.block_lt_of_cell? w _ hx298_0)).trans hx298_0
 replace hx298_1 := (HB.out.cell (World.block_lt_of_cell? w _ hx298_1)).trans hx298_1
 replace hx298_2 := (HB.out.cell (World.block_lt_of_cell? w _ hx298_2)).trans hx298_2
 replace hx298_3 := (HB.out.cell (World.block_lt_of_cell? w _ hx298_3)).trans hx298_3
 replace hx298_4 := (HB.out.cell (World.block_lt_of_cell? w _ hx298_4)).trans hx298_4
 replace hx298_5 := (HB.out.cell (World.block_lt_of_cell? w _ hx298_5)).trans hx298_5
 replace hx298_6 := (HB.out.cell (World.block_lt_of_cell? w _ hx298_6)).trans hx298_6
 replace hx298_7 := (HB.out.cell (World.block_lt_of_cell? w _ hx298_7)).trans hx298_7
 replace hx298_8 := (HB.out.cell (World.block_lt_of_cell? w _ hx298_8)).trans hx298_8
 replace hx298_9 := (HB.out.cell (World.block_lt_of_cell? w _ hx298_9)).trans hx298_9
 replace hx298_10 := (HB.out.cell (World.block_lt_of_cell? w _ hx298_10)).trans hx298_10
 have HR298_9 := Aside0.mk hi298_9
 have HC298_9 := Aside0.mk hl298_9
 clear hi298_9 hl298_9
 have HR298_10 := Aside0.mk hi298_10
 have HC298_10 := Aside0.mk hl298_10
 clear hi298_10 hl298_10
 replace p298 := eq_true p298
 replace q298 := eq_true q298
 refine start_ (n := 10) (S := fun w' => w'.cell? (ad297.add ((x5_1).toNat * 11)) = some (.int .i64 ((rd_T29 l0 x5_1).f0)) ∧ w'.cell? ⟨(ad297.add ((x5_1).toNat * 11)).block, (ad297.add ((x5_1).toNat * 11)).off + 1, none⟩ = some (.int .i64 ((rd_T29 l0 x5_1).f1)) ∧ w'.cell? ⟨(ad297.add ((x5_1).toNat * 11)).block, (ad297.add ((x5_1).toNat * 11)).off + 2, none⟩ = some (.bool ((rd_T29 l0 x5_1).f2)) ∧ w'.cell? ⟨(ad297.add ((x5_1).toNat * 11)).block, (ad297.add ((x5_1).toNat * 11)).off + 3, none⟩ = some (.bool ((rd_T29 l0 x5_1).f3)) ∧ w'.cell? ⟨(ad297.add ((x5_1).toNat * 11)).block, (ad297.add ((x5_1).toNat * 11)).off + 4, none⟩ = some (.int .i64 ((rd_T29 l0 x5_1).f4)) ∧ w'.cell? ⟨(ad297.add ((x5_1).toNat * 11)).block, (ad297.add ((x5_1).toNat * 11)).off + 5, none⟩ = some (.int .i64 ((rd_T29 l0 x5_1).f5)) ∧ w'.cell? ⟨(ad297.add ((x5_1).toNat * 11)).block, (ad297.add ((x5_1).toNat * 11)).off + 6, none⟩ = some (.int .i64 ((rd_T29 l0 x5_1).f6)) ∧ w'.cell? ⟨(ad297.add ((x5_1).toNat * 11)).block, (ad297.add ((x5_1).toNat * 11)).off + 7, none⟩ = some (.int .i64 ((rd_T29 l0 x5_1).f7)) ∧ w'.cell? ⟨(ad297.add ((x5_1).toNat * 11)).block, (ad297.add ((x5_1).toNat * 11)).off + 8, none⟩ = some (.int .i64 ((rd_T29 l0 x5_1).f8)) ∧ w'.cell? ⟨(ad297.add ((x5_1).toNat * 11)).block, (ad297.add ((x5_1).toNat * 11)).off + 9, none⟩ = some (.slice A297_9 ((rd_T29 l0 x5_1).f9).length c297_9) ∧ w'.cell? ⟨(ad297.add ((x5_1).toNat * 11)).block, (ad297.add ((x5_1).toNat * 11)).off + 10, none⟩ = some (.slice A297_10 ((rd_T29 l0 x5_1).f10).length c297_10) ∧ w'.cell? (ad298.add ((x5_1).toNat * 11)) = some (.int .i64 ((rd_T29 l1 x5_1).f0)) ∧ w'.cell? ⟨(ad298.add ((x5_1).toNat * 11)).block, (ad298.add ((x5_1).toNat * 11)).off + 1, none⟩ = some (.int .i64 ((rd_T29 l1 x5_1).f1)) ∧ w'.cell? ⟨(ad298.add ((x5_1).toNat * 11)).block, (ad298.add ((x5_1).toNat * 11)).off + 2, none⟩ = some (.bool ((rd_T29 l1 x5_1).f2)) ∧ w'.cell? ⟨(ad298.add ((x5_1).toNat * 11)).block, (ad298.add ((x5_1).toNat * 11)).off + 3, none⟩ = some (.bool ((rd_T29 l1 x5_1).f3)) ∧ w'.cell? ⟨(ad298.add ((x5_1).toNat * 11)).block, (ad298.add ((x5_1).toNat * 11)).off + 4, none⟩ = some (.int .i64 ((rd_T29 l1 x5_1).f4)) ∧ w'.cell? ⟨(ad298.add ((x5_1).toNat * 11)).block, (ad298.add ((x5_1).toNat * 11)).off + 5, none⟩ = some (.int .i64 ((rd_T29 l1 x5_1).f5)) ∧ w'.cell? ⟨(ad298.add ((x5_1).toNat * 11)).block, (ad298.add ((x5_1).toNat * 11)).off + 6, none⟩ = some (.int .i64 ((rd_T29 l1 x5_1).f6)) ∧ w'.cell? ⟨(ad298.add ((x5_1).toNat * 11)).block, (ad298.add ((x5_1).toNat * 11)).off + 7, none⟩ = some (.int .i64 ((rd_T29 l1 x5_1).f7)) ∧ w'.cell? ⟨(ad298.add ((x5_1).toNat * 11)).block, (ad298.add ((x5_1).toNat * 11)).off + 8, none⟩ = some (.int .i64 ((rd_T29 l1 x5_1).f8)) ∧ w'.cell? ⟨(ad298.add ((x5_1).toNat * 11)).block, (ad298.add ((x5_1).toNat * 11)).off + 9, none⟩ = some (.slice A298_9 ((rd_T29 l1 x5_1).f9).length c298_9) ∧ w'.cell? ⟨(ad298.add ((x5_1).toNat * 11)).block, (ad298.add ((x5_1).toNat * 11)).off + 10, none⟩ = some (.slice A298_10 ((rd_T29 l1 x5_1).f10).length c298_10)) (ds := []) #[false, false, false, false, false, false, false, false, false, false] (by kernel_rfl) rfl rfl ⟨((HB.out.cell (World.block_lt_of_cell? w _ hw297_0)).trans hw297_0), ((HB.out.cell (World.block_lt_of_cell? w _ hw297_1)).trans hw297_1), ((HB.out.cell (World.block_lt_of_cell? w _ hw297_2)).trans hw297_2), ((HB.out.cell (World.block_lt_of_cell? w _ hw297_3)).trans hw297_3), ((HB.out.cell (World.block_lt_of_cell? w _ hw297_4)).trans hw297_4), ((HB.out.cell (World.block_lt_of_cell? w _ hw297_5)).trans hw297_5), ((HB.out.cell (World.block_lt_of_cell? w _ hw297_6)).trans hw297_6), ((HB.out.cell (World.block_lt_of_cell? w _ hw297_7)).trans hw297_7), ((HB.out.cell (World.block_lt_of_cell? w _ hw297_8)).trans hw297_8), ((HB.out.cell (World.block_lt_of_cell? w _ hw297_9)).trans hw297_9), ((HB.out.cell (World.block_lt_of_cell? w _ hw297_10)).trans hw297_10), ((HB.out.cell (World.block_lt_of_cell? w _ hw298_0)).trans hw298_0), ((HB.out.cell (World.block_lt_of_cell? w _ hw298_1)).trans hw298_1), ((HB.out.cell (World.block_lt_of_cell? w _ hw298_2)).trans hw298_2), ((HB.out.cell (World.block_lt_of_cell? w _ hw298_3)).trans hw298_3), ((HB.out.cell (World.block_lt_of_cell? w _ hw298_4)).trans hw298_4), ((HB.out.cell (World.block_lt_of_cell? w _ hw298_5)).trans hw298_5), ((HB.out.cell (World.block_lt_of_cell? w _ hw298_6)).trans hw298_6), ((HB.out.cell (World.block_lt_of_cell? w _ hw298_7)).trans hw298_7), ((HB.out.cell (World.block_lt_of_cell? w _ hw298_8)).trans hw298_8), ((HB.out.cell (World.block_lt_of_cell? w _ hw298_9)).trans hw298_9), ((HB.out.cell (World.block_lt_of_cell? w _ hw298_10)).trans hw298_10)⟩ (fun hHeld => ?_); refine with_tabW laws_eqPacketS.tab6 laws_eqPacketS.bits6 (fun HT_ HW_ => ?_)
 generalize wr.drew = w2001 at HB HR297_10 HR297_9 HR298_10 HR298_9 hx297_0 hx297_1 hx297_10 hx297_2 hx297_3 hx297_4 hx297_5 hx297_6 hx297_7 hx297_8 hx297_9 hx298_0 hx298_1 hx298_10 hx298_2 hx298_3 hx298_4 hx298_5 hx298_6 hx298_7 hx298_8 hx298_9 hHeld ⊢
 refine pure_ (i := 0) (N := some 17) (v := ?_) (a' := ?_) #[true, false, false, false, false, false, false, false, false, false] rfl rfl (any_of HT_.out (by kernel_rfl)) (fun _ _ _ h => h) (Or.inl ⟨by rfl, ?_⟩) ?_ ?_
 rotate_left
 {
 intro w'
 go_simp
 with_reducible rfl
 }
 rotate_left
 {
 simp only [Act.put, List.setIfInBounds_toArray, List.set_cons_zero, List.set_cons_succ, i64_w, i32_w]
 rfl
 }
 refine pure_ (i := 1) (N := some 18) (v := ?_) (a' := ?_) #[true, true, false, false, false, false, false, false, false, false] rfl rfl (any_of HT_.out (by kernel_rfl)) (fun _ _ _ h => h) (Or.inl ⟨by rfl, ?_⟩) ?_ ?_
 rotate_left
 {
 intro w'
 go_simp
 with_reducible rfl
 }
 rotate_left
 {
 simp only [Act.put, List.setIfInBounds_toArray, List.set_cons_zero, List.set_cons_succ, i64_w, i32_w]
 rfl
 }
 refine pure_ (i := 2) (N := some 19) (v := ?_) (a' := ?_) #[true, true, true, false, false, false, false, false, false, false] rfl rfl (any_of HT_.out (by kernel_rfl)) (fun _ _ _ h => h) (Or.inl ⟨by rfl, ?_⟩) ?_ ?_
 rotate_left
 {
 intro w'
 go_simp
 with_reducible rfl
 }
 rotate_left
 {
 simp only [Act.put, List.setIfInBounds_toArray, List.set_cons_zero, List.set_cons_succ, i64_w, i32_w]
 rfl
 }
 refine pure_ (i := 4) (N := some 21) (v := ?_) (a' := ?_) #[true, true, true, false, true, false, false, false, false, false] rfl rfl (any_of HT_.out (by kernel_rfl)) (fun _ _ _ h => h) (Or.inl ⟨by rfl, ?_⟩) ?_ ?_
 rotate_left
 {
 intro w'
 go_simp
 with_reducible rfl
 }
 rotate_left
 {
 simp only [Act.put, List.setIfInBounds_toArray, List.set_cons_zero, List.set_cons_succ, i64_w, i32_w]
 rfl
 }
 refine pure_ (i := 5) (N := some 22) (v := ?_) (a' := ?_) #[true, true, true, false, true, true, false, false, false, false] rfl rfl (any_of HT_.out (by kernel_rfl)) (fun _ _ _ h => h) (Or.inl ⟨by rfl, ?_⟩) ?_ ?_
 rotate_left
 {
 intro w'
 go_simp
 with_reducible rfl
 }
 rotate_left
 {
 simp only [Act.put, List.setIfInBounds_toArray, List.set_cons_zero, List.set_cons_succ, i64_w, i32_w]
 rfl
 }
 refine pure_ (i := 6) (N := some 23) (v := ?_) (a' := ?_) #[true, true, true, false, true, true, true, false, false, false] rfl rfl (any_of HT_.out (by kernel_rfl)) (fun _ _ _ h => h) (Or.inl ⟨by rfl, ?_⟩) ?_ ?_
 rotate_left
 {
 intro w'
 go_simp
 with_reducible rfl
 }
 rotate_left
 {
 simp only [Act.put, List.setIfInBounds_toArray, List.set_cons_zero, List.set_cons_succ, i64_w, i32_w]
 rfl
 }
 refine take_ (i := 3) (N := some 20) (v := ?_) (a' := ?_) #[true, true, true, true, true, true, true, false, false, false] rfl rfl (take_ofW HT_.out HW_.out (by kernel_rfl)) (fun _ _ _ h => h) (Or.inl ⟨by rfl, ?_⟩) hHeld ?_ ?_
 rotate_left
 {
 rintro w' ⟨s0, s1, s2, s3, s4, s5, s6, s7, s8, s9, s10, s11, s12, s13, s14, s15, s16, s17, s18, s19, s20, s21⟩
 go_simp
 with_reducible rfl
 }
 rotate_left
 {
 simp only [Act.put, List.setIfInBounds_toArray, List.set_cons_zero, List.set_cons_succ, i64_w, i32_w]
 rfl
 }
 refine take_ (i := 7) (N := some 24) (v := ?_) (a' := ?_) #[true, true, true, true, true, true, true, true, false, false] rfl rfl (take_ofW HT_.out HW_.out (by kernel_rfl)) (fun _ _ _ h => h) (Or.inl ⟨by rfl, ?_⟩) hHeld ?_ ?_
 rotate_left
 {
 rintro w' ⟨s0, s1, s2, s3, s4, s5, s6, s7, s8, s9, s10, s11, s12, s13, s14, s15, s16, s17, s18, s19, s20, s21⟩
 go_simp
 with_reducible rfl
 }
 rotate_left
 {
 simp only [Act.put, List.setIfInBounds_toArray, List.set_cons_zero, List.set_cons_succ, i64_w, i32_w]
 rfl
 }
 refine one_ (i := 8) (N := some 25) #[true, true, true, true, true, true, true, true, true, false] rfl rfl (one_of HT_.out (by kernel_rfl)) (by decide) (fun K hK => ?_)
 refine goes_ Try.func9 (by kernel_rfl) rfl #[.agg #[.int .i64 ((rd_T29 l0 x5_1).f0), .int .i64 ((rd_T29 l0 x5_1).f1), .bool ((rd_T29 l0 x5_1).f2), .bool ((rd_T29 l0 x5_1).f3), .int .i64 ((rd_T29 l0 x5_1).f4), .int .i64 ((rd_T29 l0 x5_1).f5), .int .i64 ((rd_T29 l0 x5_1).f6), .int .i64 ((rd_T29 l0 x5_1).f7), .int .i64 ((rd_T29 l0 x5_1).f8), .slice A297_9 ((rd_T29 l0 x5_1).f9).length c297_9, .slice A297_10 ((rd_T29 l0 x5_1).f10).length c297_10], .agg #[.int .i64 ((rd_T29 l1 x5_1).f0), .int .i64 ((rd_T29 l1 x5_1).f1), .bool ((rd_T29 l1 x5_1).f2), .bool ((rd_T29 l1 x5_1).f3), .int .i64 ((rd_T29 l1 x5_1).f4), .int .i64 ((rd_T29 l1 x5_1).f5), .int .i64 ((rd_T29 l1 x5_1).f6), .int .i64 ((rd_T29 l1 x5_1).f7), .int .i64 ((rd_T29 l1 x5_1).f8), .slice A298_9 ((rd_T29 l1 x5_1).f9).length c298_9, .slice A298_10 ((rd_T29 l1 x5_1).f10).length c298_10]] (by rfl) rfl rfl wT ?_
 with_reducible refine (laws_eqPacket.calls k1 ((rd_T29 l0 x5_1).f0) ((rd_T29 l0 x5_1).f1) ((rd_T29 l0 x5_1).f2) ((rd_T29 l0 x5_1).f3) ((rd_T29 l0 x5_1).f4) ((rd_T29 l0 x5_1).f5) ((rd_T29 l0 x5_1).f6) ((rd_T29 l0 x5_1).f7) ((rd_T29 l0 x5_1).f8) _ _ ((rd_T29 l0 x5_1).f9) _ _ ((rd_T29 l0 x5_1).f10) ((rd_T29 l1 x5_1).f0) ((rd_T29 l1 x5_1).f1) ((rd_T29 l1 x5_1).f2) ((rd_T29 l1 x5_1).f3) ((rd_T29 l1 x5_1).f4) ((rd_T29 l1 x5_1).f5) ((rd_T29 l1 x5_1).f6) ((rd_T29 l1 x5_1).f7) ((rd_T29 l1 x5_1).f8) _ _ ((rd_T29 l1 x5_1).f9) _ _ ((rd_T29 l1 x5_1).f10) (by first | (clear bq1_; exact true) | exact false) _ ?side1 ?side2 ?side3 ?side4 ?side5 ?side6 ?side7 ?side8 A1004.out).mono ?_
 (case side1 => exact Kd.C_below HR297_9.out wB)
 (case side2 => exact HC297_9.out)
 (case side3 => exact Kd.C_below HR297_10.out wB)
 (case side4 => exact HC297_10.out)
 (case side5 => exact Kd.C_below HR298_9.out wB)
 (case side6 => exact HC298_9.out)
 (case side7 => exact Kd.C_below HR298_10.out wB)
 (case side8 => exact HC298_10.out)
 rintro e w2002 ⟨rfl, hb⟩
 refine ⟨_, rfl, ?_⟩
 have n0_ := Aside0.mk (below_step wB hb)
 clear HB
 have HB := n0_
 clear n0_
 (try clear hb)
 (try clear hb2)
 (try clear hk)
 (try clear hi)
 refine hK.out _ _ ⟨((HB.out.cell (World.block_lt_of_cell? w _ hw297_0)).trans hw297_0), ((HB.out.cell (World.block_lt_of_cell? w _ hw297_1)).trans hw297_1), ((HB.out.cell (World.block_lt_of_cell? w _ hw297_2)).trans hw297_2), ((HB.out.cell (World.block_lt_of_cell? w _ hw297_3)).trans hw297_3), ((HB.out.cell (World.block_lt_of_cell? w _ hw297_4)).trans hw297_4), ((HB.out.cell (World.block_lt_of_cell? w _ hw297_5)).trans hw297_5), ((HB.out.cell (World.block_lt_of_cell? w _ hw297_6)).trans hw297_6), ((HB.out.cell (World.block_lt_of_cell? w _ hw297_7)).trans hw297_7), ((HB.out.cell (World.block_lt_of_cell? w _ hw297_8)).trans hw297_8), ((HB.out.cell (World.block_lt_of_cell? w _ hw297_9)).trans hw297_9), ((HB.out.cell (World.block_lt_of_cell? w _ hw297_10)).trans hw297_10), ((HB.out.cell (World.block_lt_of_cell? w _ hw298_0)).trans hw298_0), ((HB.out.cell (World.block_lt_of_cell? w _ hw298_1)).trans hw298_1), ((HB.out.cell (World.block_lt_of_cell? w _ hw298_2)).trans hw298_2), ((HB.out.cell (World.block_lt_of_cell? w _ hw298_3)).trans hw298_3), ((HB.out.cell (World.block_lt_of_cell? w _ hw298_4)).trans hw298_4), ((HB.out.cell (World.block_lt_of_cell? w _ hw298_5)).trans hw298_5), ((HB.out.cell (World.block_lt_of_cell? w _ hw298_6)).trans hw298_6), ((HB.out.cell (World.block_lt_of_cell? w _ hw298_7)).trans hw298_7), ((HB.out.cell (World.block_lt_of_cell? w _ hw298_8)).trans hw298_8), ((HB.out.cell (World.block_lt_of_cell? w _ hw298_9)).trans hw298_9), ((HB.out.cell (World.block_lt_of_cell? w _ hw298_10)).trans hw298_10)⟩ (fun hHeld => ?_)
 clear hK K
 refine norm_ (a' := ?_) ?_ ?_
 rotate_left
 {
 show Act.put _ (some 25) _ = _
 simp only [Act.put, List.setIfInBounds_toArray, List.set_cons_zero, List.set_cons_succ, i64_w, i32_w]
 rfl
 }
 refine pure_ (i := 9) (N := some 26) (v := ?_) (a' := ?_) #[true, true, true, true, true, true, true, true, true, true] rfl rfl (any_of HT_.out (by kernel_rfl)) (fun _ _ _ h => h) (Or.inl ⟨by rfl, ?_⟩) ?_ ?_
 rotate_left
 {
 intro w'
 go_simp
 with_reducible rfl
 }
 rotate_left
 {
 simp only [Act.put, List.setIfInBounds_toArray, List.set_cons_zero, List.set_cons_succ, i64_w, i32_w]
 rfl
 }
 refine done_ (done_of HT_.out (by kernel_rfl)) ?_
 try go_wp2
 )
 rotate_left
 )
 rotate_right 2
 {
 go_roundg k1
 case measure => have := HK1.out; omega
 case rel => exact ⟨(wrap64 (x5_1 + 1)), (by first | rfl | (simp; done) | (simp [*]; done)), H', ⟨by have := HK1.out; omega⟩, ⟨wB⟩⟩
 }
 {
 go_ret
 exact ⟨by first | rfl | (simp [errW_none, errW_some] <;> rfl) | (simp [*, errW_none, errW_some] <;> rfl), wB⟩
 }
 {
 go_ret
 exact ⟨by first | rfl | (simp [errW_none, errW_some] <;> rfl) | (simp [*, errW_none, errW_some] <;> rfl), wB⟩
 }
 }
 )
 }
 {
 rw [if_neg c3] at H
 have c3b0 : ((l0.length : Int) == (l1.length : Int)) = false := beq_eq_false_iff_ne.mpr c3
 have c3b1 : ((l0.length : Int) != (l1.length : Int)) = true := bne_iff_ne.mpr c3
 have c3b2 : (l0.length == l1.length) = false := by first | simpa using c3 | (simp at c3 ⊢; omega)
 obtain rfl := Option.some.inj H
 go_enter Try.func8, Try.ntmps8
 go_wp2
 go_ret
 exact ⟨by first | rfl | (simp [errW_none, errW_some] <;> rfl) | (simp [*, errW_none, errW_some] <;> rfl), wB⟩
 }

/-! ### laws_markByteS: function 24 -/
def laws_markByteS.l0 : Nat → List Int → Int → Int → Option (Int × List Int)
  | 0, _, _, _ => none
  | k + 1, x0, x1, x5 => if x5 < (x0.length : Int) then (if 0 ≤ x5 then (laws_markByteS.l0 k (x0.set (x5 : Int).toNat ((x1) % 256)) (wrap64 (x1 + 1)) (wrap64 (x5 + 1))) else (none)) else (some (x1, x0))
def laws_markByteS.f (k : Nat) (l0 : List Int) (a1 : Int) : Option (Int × List Int) := laws_markByteS.l0 k l0 a1 0
theorem laws_markByteS.mono_l : ∀ k, (∀ y0 y1 y2, LeO (laws_markByteS.l0 k y0 y1 y2) (laws_markByteS.l0 (k + 1) y0 y1 y2))
  | 0 => fun _ _ _ r h => by simp [laws_markByteS.l0] at h
  | k + 1 => by
    have ih0 := laws_markByteS.mono_l k
    · intro y0 y1 y2
      unfold laws_markByteS.l0
      repeat' first
      | (with_reducible exact ih0 _ _ _)
      | (with_reducible exact LeO.refl _)
      | (with_reducible exact LeO.none _)
      | (with_reducible refine LeO.ite ?_ ?_)
      | (with_reducible refine LeO.bind ?_ (fun _ => ?_))
      | exact ih0 _ _ _
      | exact LeO.none _
      | refine LeO.ite ?_ ?_
      | refine LeO.bind ?_ (fun _ => ?_)
theorem laws_markByteS.mono : ∀ a0 a1 k, LeO (laws_markByteS.f k a0 a1) (laws_markByteS.f (k + 1) a0 a1) := by
  intro a0 a1 k
  have ih0 := laws_markByteS.mono_l k
  unfold laws_markByteS.f
  repeat' first
      | (with_reducible exact ih0 _ _ _)
      | (with_reducible exact LeO.refl _)
      | (with_reducible exact LeO.none _)
      | (with_reducible refine LeO.ite ?_ ?_)
      | (with_reducible refine LeO.bind ?_ (fun _ => ?_))
      | exact ih0 _ _ _
      | exact LeO.none _
      | refine LeO.ite ?_ ?_
      | refine LeO.bind ?_ (fun _ => ?_)
set_option maxHeartbeats 60000000 in
set_option maxRecDepth 100000 in
theorem laws_markByteS.calls (k : Nat) (P0_ : Nat → Prop) (u9000_ : Value) (l0 : List Int) (a1 : Int) (r1 : Int) (r2 : List Int) (w0 w : World) (hB : Below w0.heap.size w0 w) (ho0 : Kd.R (Kd.int .u8) 5 w w0.heap.size P0_ u9000_ l0) (h : laws_markByteS.f k l0 a1 = some (r1, r2)) :
    Calls Try.prog 24 #[u9000_, .int .i64 a1] w fun e w' => e = .returned (.int .i64 r1) ∧ Kd.R (Kd.int .u8) 5 w' w0.heap.size (fun k_ => (P0_ k_ ∨ w.heap.size ≤ k_)) u9000_ r2 ∧ Below w0.heap.size w0 w' ∧ Kept w w' (fun k_ => P0_ k_) := by
  have HO0 := Aside0.mk (show Kd.R (Kd.int .u8) 5 w w0.heap.size (fun k_ => (P0_ k_ ∨ w.heap.size ≤ k_)) u9000_ l0 from Kd.R_mono ho0 (fun k_ hk => (.inl hk)))
  have HK := Aside0.mk (Kept.refl w (fun k_ => P0_ k_))
  have HW0 := Aside0.mk hB.size
  have HB := Aside0.mk hB
  clear hB
  have H : (laws_markByteS.l0 k l0 a1 0) = some (r1, r2) := h
  clear h
  have H' := Aside0.mk H
  clear H
  go_enter Try.func24, Try.ntmps24
  go_wp2
  go_loopg [1, 5] k (fun kq v1 v5 w' => ∃ (x0_1 : List Int) (x1_1 : Int) (x5_1 : Int), v1 = .int .i64 x1_1 ∧ v5 = .int .i64 x5_1 ∧ Aside0 (laws_markByteS.l0 kq x0_1 x1_1 x5_1 = some (r1, r2)) ∧ Aside0 (kq ≤ k) ∧ Aside0 (Kd.R (Kd.int .u8) 5 w' w0.heap.size (fun k_ => (P0_ k_ ∨ w.heap.size ≤ k_)) u9000_ x0_1) ∧ Aside0 (Kept w w' (fun k_ => P0_ k_)) ∧ Aside0 (Below w0.heap.size w0 w'))
  case atStart => exact ⟨(l0), (a1), (0), (by first | rfl | (simp; done) | (simp [*]; done)), (by first | rfl | (simp; done) | (simp [*]; done)), H', ⟨Nat.le_refl _⟩, ⟨Rh HO0⟩, ⟨by repeat (first | (with_reducible first | exact HK.out | apply Kept.alloc | apply Kept.drewN | apply Kept.drew) | exact HK.out)⟩, ⟨wB⟩⟩
  case round =>
    clear H'
    obtain ⟨x0_1, x1_1, x5_1, rfl, rfl, HA, HK1, HO_0, HK, HB⟩ := hrel
    cases gk with
    | zero => exact absurd HA.out (by simp [laws_markByteS.l0])
    | succ k1 =>
      have H := HA.out
      clear HA
      simp only [laws_markByteS.l0] at H
      by_cases c1001 : x5_1 < (x0_1.length : Int)
      · rw [if_pos c1001] at H
        have c1001b0 : decide (x5_1 < (x0_1.length : Int)) = true := decide_eq_true c1001
        clear c1001
        by_cases c1002 : 0 ≤ x5_1
        · rw [if_pos c1002] at H
          have c1002b0 : decide (0 ≤ x5_1) = true := decide_eq_true c1002
          clear c1002
          obtain ⟨y300, hy300⟩ : ∃ y_ : List Int, y_ = (x0_1.set (x5_1 : Int).toNat ((x1_1) % 256)) := ⟨_, rfl⟩
          replace H : (laws_markByteS.l0 k1 y300 (wrap64 (x1_1 + 1)) (wrap64 (x5_1 + 1))) = some (r1, r2) := by first | (rw [hy300]; with_reducible exact H) | (have H2_ := (Option.bind_some _ _).symm.trans H; rw [hy300]; with_reducible exact H2_) | (have H2_ := (Option.bind_some _ _).symm.trans H; with_reducible exact H2_) | with_reducible exact H | (rw [hy300]; exact H) | exact H
          have Ny300 := Aside0.mk hy300
          clear hy300
          have H' := Aside0.mk H
          clear H
          obtain ⟨Ao2001, co2001, eo2001⟩ := Kd.R_slice HO_0.out
          subst eo2001
          have p1003 : 0 ≤ (x5_1 : Int) := of_decide_eq_true (by first | (with_reducible assumption) | assumption)
          have q1003 : (x5_1 : Int) < ((x0_1.length : Int) : Int) := of_decide_eq_true (by first | (with_reducible assumption) | assumption)
          obtain ⟨go1003, co1003, eo1003, gb1003, gl1003, cl1003, HG1003⟩ := Kd.R_form HO_0.out (by omega)
          (first | cases eo1003 | (injection eo1003 with ea_ en_ ec_; (first | subst ea_ | (injection ea_ with ea_; subst ea_)); subst ec_; clear en_))
          have GB1003 := Aside0.mk gb1003
          have GG1003 := Aside0.mk HG1003
          clear gb1003 gl1003 HG1003
          have HMgo1003 := Aside0.mk (show (P0_ go1003 ∨ w.heap.size ≤ go1003) from (HO_0.out.1 _ rfl))
          obtain ⟨hx1003_0, hf1003_0⟩ := Kd.R_celln 0 HO_0.out (x5_1 : Int) p1003 q1003
          replace p1003 := eq_true p1003
          replace q1003 := eq_true q1003
          have HP2002 := Kd.R_putg HO_0.out (x5_1 : Int) ((x1_1) % 256)
          go_wp2_with (first | ((with_reducible refine gate_store (t := 5) (p := 16) rfl ?_); refine store_event (t := 5) (p := 16) (v := ?_) (w1 := (wr.setCell ⟨go1003, (x5_1 : Int).toNat, none⟩ (.int .u8 ((x1_1) % 256)))) ?hg ?ho ?hn ?hr ?_; (case ho => rfl); (case hg => rfl); (case hn => rfl); (case hr => first | (go_simp; done) | (go_simp; rfl)); intro w2003 hw; have hg : wr.grownBy w2003 (some go1003) := (by rw [hw]; exact HP2002.2); have hp_ : Kd.R (Kd.int .u8) 5 w2003 w0.heap.size (fun k_ => (P0_ k_ ∨ w.heap.size ≤ k_)) (.slice (some ⟨go1003, 0, none⟩) x0_1.length co2001) y300 := (by rw [hw, Ny300.out]; exact HP2002.1); clear HP2002; have n0_ := Aside0.mk (hp_); have n1_ := Aside0.mk ((by rw [hw]; exact below_set (HB.out) GB1003.out : Below w0.heap.size w0 w2003)); have n2_ := Aside0.mk (Kept.of_grown (S := (fun k_ => P0_ k_)) hg (by repeat (first | (with_reducible first | exact HK.out | apply Kept.alloc | apply Kept.drewN | apply Kept.drew) | exact HK.out)) (fun k_ e_ => (HO_0.out.1 k_ e_))); clear HO_0; clear HB; clear HK; have HO_0 := n0_; have HB := n1_; have HK := n2_; clear n0_ n1_ n2_; clear hg hw hp_))
          go_roundg k1
          case measure => have := HK1.out; omega
          case rel => exact ⟨(y300), (wrap64 (x1_1 + 1)), (wrap64 (x5_1 + 1)), (by first | rfl | (simp; done) | (simp [*]; done)), (by first | rfl | (simp; done) | (simp [*]; done)), H', ⟨by have := HK1.out; omega⟩, ⟨Rh HO_0⟩, ⟨by repeat (first | (with_reducible first | exact HK.out | apply Kept.alloc | apply Kept.drewN | apply Kept.drew) | exact HK.out)⟩, ⟨wB⟩⟩
        · rw [if_neg c1002] at H
          exact absurd H (by simp)
      · rw [if_neg c1001] at H
        have c1001b0 : decide (x5_1 < (x0_1.length : Int)) = false := decide_eq_false c1001
        clear c1001
        simp only [Option.some.injEq, Prod.mk.injEq] at H
        obtain ⟨rfl, rfl⟩ := H
        obtain ⟨Ao2001, co2001, eo2001⟩ := Kd.R_slice HO_0.out
        subst eo2001
        go_wp2
        go_ret
        exact ⟨by first | rfl | (simp [errW_none, errW_some] <;> rfl) | (simp [*, errW_none, errW_some] <;> rfl), by (with_reducible repeat (first | apply Kd.R_alloc | apply Kd.R_drewN | apply Kd.R_drew)); exact HO_0.out, wB, by repeat (first | (with_reducible first | exact HK.out | apply Kept.alloc | apply Kept.drewN | apply Kept.drew) | exact HK.out)⟩

/-! ### laws_markPacket: function 10 -/
def laws_markPacket.f (k : Nat) (a0_0 : Int) (a0_1 : Int) (a0_2 : Bool) (a0_3 : Bool) (a0_4 : Int) (a0_5 : Int) (a0_6 : Int) (a0_7 : Int) (a0_8 : Int) (l0_9 : List Int) (l0_10 : List Int) (a1 : Int) : Option (Int × List Int × List Int) := (laws_markByteS.f k l0_9 a1).bind fun bt302 => ((laws_markByteS.f k l0_10 bt302.1).bind fun bt304 => (some (bt304.1, bt302.2, bt304.2)))
theorem laws_markPacket.mono : ∀ a0 a1 a2 a3 a4 a5 a6 a7 a8 a9 a10 a11 k, LeO (laws_markPacket.f k a0 a1 a2 a3 a4 a5 a6 a7 a8 a9 a10 a11) (laws_markPacket.f (k + 1) a0 a1 a2 a3 a4 a5 a6 a7 a8 a9 a10 a11) := by
  intro a0 a1 a2 a3 a4 a5 a6 a7 a8 a9 a10 a11 k
  unfold laws_markPacket.f
  repeat' first
      | (with_reducible exact laws_markByteS.mono _ _ _)
      | (with_reducible exact LeO.refl _)
      | (with_reducible exact LeO.none _)
      | (with_reducible refine LeO.ite ?_ ?_)
      | (with_reducible refine LeO.bind ?_ (fun _ => ?_))
      | exact laws_markByteS.mono _ _ _
      | exact LeO.none _
      | refine LeO.ite ?_ ?_
      | refine LeO.bind ?_ (fun _ => ?_)
set_option maxHeartbeats 60000000 in
set_option maxRecDepth 100000 in
theorem laws_markPacket.calls (k : Nat) (a0_0 : Int) (a0_1 : Int) (a0_2 : Bool) (a0_3 : Bool) (a0_4 : Int) (a0_5 : Int) (a0_6 : Int) (a0_7 : Int) (a0_8 : Int) (P0_9_ : Nat → Prop) (u9000_ : Value) (l0_9 : List Int) (P0_10_ : Nat → Prop) (u9001_ : Value) (l0_10 : List Int) (a1 : Int) (r1 : Int) (r2 : List Int) (r3 : List Int) (w0 w : World) (hB : Below w0.heap.size w0 w) (ho0_9 : Kd.R (Kd.int .u8) 5 w w0.heap.size P0_9_ u9000_ l0_9) (hp0_9_0_10 : ∀ k_, P0_9_ k_ → ¬ P0_10_ k_) (ho0_10 : Kd.R (Kd.int .u8) 5 w w0.heap.size P0_10_ u9001_ l0_10) (hp0_10_0_9 : ∀ k_, P0_10_ k_ → ¬ P0_9_ k_) (h : laws_markPacket.f k a0_0 a0_1 a0_2 a0_3 a0_4 a0_5 a0_6 a0_7 a0_8 l0_9 l0_10 a1 = some (r1, r2, r3)) :
    Calls Try.prog 10 #[.agg #[.int .i64 a0_0, .int .i64 a0_1, .bool a0_2, .bool a0_3, .int .i64 a0_4, .int .i64 a0_5, .int .i64 a0_6, .int .i64 a0_7, .int .i64 a0_8, u9000_, u9001_], .int .i64 a1] w fun e w' => e = .returned (.int .i64 r1) ∧ Kd.R (Kd.int .u8) 5 w' w0.heap.size (fun k_ => ((P0_9_ k_ ∨ P0_10_ k_) ∨ w.heap.size ≤ k_)) u9000_ r2 ∧ Kd.R (Kd.int .u8) 5 w' w0.heap.size (fun k_ => ((P0_9_ k_ ∨ P0_10_ k_) ∨ w.heap.size ≤ k_)) u9001_ r3 ∧ Below w0.heap.size w0 w' ∧ Kept w w' (fun k_ => P0_9_ k_ ∨ P0_10_ k_) := by
  have hu29 := Try.underlying29
  have HO0_9 := Aside0.mk (show Kd.R (Kd.int .u8) 5 w w0.heap.size (fun k_ => ((P0_9_ k_ ∨ P0_10_ k_) ∨ w.heap.size ≤ k_) ∧ some k_ ≠ (u9001_ : Value).ownBlock) u9000_ l0_9 from Kd.R_mono ho0_9 (fun k_ hk => ⟨(.inl (.inl hk)), fun e_ => hp0_9_0_10 k_ hk (ho0_10.1 k_ e_.symm)⟩))
  have HO0_10 := Aside0.mk (show Kd.R (Kd.int .u8) 5 w w0.heap.size (fun k_ => ((P0_9_ k_ ∨ P0_10_ k_) ∨ w.heap.size ≤ k_) ∧ some k_ ≠ (u9000_ : Value).ownBlock) u9001_ l0_10 from Kd.R_mono ho0_10 (fun k_ hk => ⟨(.inl (.inr hk)), fun e_ => hp0_10_0_9 k_ hk (ho0_9.1 k_ e_.symm)⟩))
  have HK := Aside0.mk (Kept.refl w (fun k_ => P0_9_ k_ ∨ P0_10_ k_))
  have HW0 := Aside0.mk hB.size
  have HB := Aside0.mk hB
  clear hB
  have H : ((laws_markByteS.f k l0_9 a1).bind fun bt302 => ((laws_markByteS.f k l0_10 bt302.1).bind fun bt304 => (some (bt304.1, bt302.2, bt304.2)))) = some (r1, r2, r3) := h
  clear h
  replace H := Option.bind_eq_some_iff.mp H
  obtain ⟨⟨t302, t303⟩, A30, H⟩ := H
  replace H : ((laws_markByteS.f k l0_10 t302).bind fun bt304 => (some (bt304.1, t303, bt304.2))) = some (r1, r2, r3) := H
  have A3 := Aside0.mk A30
  clear A30
  replace H := Option.bind_eq_some_iff.mp H
  obtain ⟨⟨t304, t305⟩, A40, H⟩ := H
  replace H : (some (t304, t303, t305)) = some (r1, r2, r3) := H
  have A4 := Aside0.mk A40
  clear A40
  simp only [Option.some.injEq, Prod.mk.injEq] at H
  obtain ⟨rfl, rfl, rfl⟩ := H
  obtain ⟨Ao1001, co1001, eo1001⟩ := Kd.R_slice HO0_9.out
  subst eo1001
  obtain ⟨Ao1002, co1002, eo1002⟩ := Kd.R_slice HO0_10.out
  subst eo1002
  go_enter Try.func10, Try.ntmps10
  go_wp2_with (first | ((with_reducible refine gate_dst (N := 2) rfl ?_); refine box_event ?hg (N := 2) ?hd (cs := #[.int .i64 a0_0, .int .i64 a0_1, .bool a0_2, .bool a0_3, .int .i64 a0_4, .int .i64 a0_5, .int .i64 a0_6, .int .i64 a0_7, .int .i64 a0_8, .slice Ao1001 l0_9.length co1001, .slice Ao1002 l0_10.length co1002]) (t := 29) ?hr ?_; (case hd => rfl); (case hg => rfl); (case hr => first | (go_simp; done) | (go_simp; rfl)); intro gb301 hg w1003 hbox hb; have n0_ := Aside0.mk (Kd.R_below (Rh HO0_9) hb); have n1_ := Aside0.mk (Kd.R_below (Rh HO0_10) hb); have n2_ := Aside0.mk (Kept.below (S := (fun k_ => P0_9_ k_ ∨ P0_10_ k_)) (by repeat (first | (with_reducible first | exact HK.out | apply Kept.alloc | apply Kept.drewN | apply Kept.drew) | exact HK.out)) hb); have n3_ := Aside0.mk (below_step wB hb); have n4_ := Aside0.mk (hbox); have n5_ := Aside0.mk ((by rw [hg]; exact (by first | exact HK.out.1 | exact (show Kept w _ (fun k_ => P0_9_ k_ ∨ P0_10_ k_) from by repeat (first | (with_reducible first | exact HK.out | apply Kept.alloc | apply Kept.drewN | apply Kept.drew) | exact HK.out)).1) : w.heap.size ≤ gb301)); have n6_ := Aside0.mk ((by rw [hg]; exact (below_size wB) : w0.heap.size ≤ gb301)); clear HO0_9; clear HO0_10; clear HK; clear HB; have HO0_9 := n0_; have HO0_10 := n1_; have HK := n2_; have HB := n3_; have BK301 := n4_; have GW301 := n5_; have GE301 := n6_; clear n0_ n1_ n2_ n3_ n4_ n5_ n6_; clear hb hbox hg; obtain ⟨⟨hcz1004_0, hcz1004_1, hcz1004_2, hcz1004_3, hcz1004_4, hcz1004_5, hcz1004_6, hcz1004_7, hcz1004_8, hcz1004_9, hcz1004_10⟩, hfz1004_0, hfz1004_1, hfz1004_2, hfz1004_3, hfz1004_4, hfz1004_5, hfz1004_6, hfz1004_7, hfz1004_8, hfz1004_9, hfz1004_10⟩ := cells11 BK301.out) | ((with_reducible refine gate_callee (f := 24) rfl ?_); refine goesL_ (some 8) rfl rfl Try.func24 (by kernel_rfl) rfl #[.slice Ao1001 l0_9.length co1001, .int .i64 a1] rfl wT ?_; (with_reducible refine (laws_markByteS.calls k (fun k_ => some k_ = (.slice Ao1001 l0_9.length co1001 : Value).ownBlock) (.slice Ao1001 l0_9.length co1001) l0_9 a1 t302 t303 w0 _ ?side1 ?side2 A3.out).mono ?_); (case side1 => repeat (first | (with_reducible first | exact HB.out | apply below_alloc | apply pw_below_drewN | apply below_drew1 | refine below_set ?_ GE301.out) | exact HB.out)); (case side2 => exact Kd.R_tight rfl HO0_9.out); rintro e w1005 ⟨rfl, hy0, hb, hkp⟩; refine ⟨_, rfl, ?_⟩; have n0_ := Aside0.mk (Kd.R_reok rfl hy0 (fun k_ e_ => HO0_9.out.1 k_ e_)); have n1_ := Aside0.mk (Kd.R_mono (ok' := fun k_ => ((P0_9_ k_ ∨ P0_10_ k_) ∨ w.heap.size ≤ k_) ∧ some k_ ≠ (.slice Ao1001 l0_9.length co1001 : Value).ownBlock) (Kd.R_keptB (HO0_10.out) hkp (fun k_ hk_ hs_ => (hk_.2) hs_)) (fun k_ hk_ => ⟨hk_.1.1, hk_.1.2⟩)); have n2_ := Aside0.mk (blk_kept (Bh BK301) hkp (fun hs_ => (fun e_ => (Kd.R_ne HO0_9.out BK301.out (by decide)) e_) hs_)); have n3_ := Aside0.mk (Kept.then_ (S := (fun k_ => P0_9_ k_ ∨ P0_10_ k_)) (by repeat (first | (with_reducible first | exact HK.out | apply Kept.alloc | apply Kept.drewN | apply Kept.drew | refine Kept.setCell ?_ (.inr GW301.out) _) | exact HK.out)) hkp (fun k_ hs_ => (fun e_ => (HO0_9.out.1 k_ e_.symm).1) hs_)); have n4_ := Aside0.mk (hb); clear HO0_9; clear HO0_10; clear BK301; clear HK; clear HB; have HO0_9 := n0_; have HO0_10 := n1_; have BK301 := n2_; have HK := n3_; have HB := n4_; clear n0_ n1_ n2_ n3_ n4_; (try clear hb); (try clear hkp); (try clear hy0); obtain ⟨⟨hcz1006_0, hcz1006_1, hcz1006_2, hcz1006_3, hcz1006_4, hcz1006_5, hcz1006_6, hcz1006_7, hcz1006_8, hcz1006_9, hcz1006_10⟩, hfz1006_0, hfz1006_1, hfz1006_2, hfz1006_3, hfz1006_4, hfz1006_5, hfz1006_6, hfz1006_7, hfz1006_8, hfz1006_9, hfz1006_10⟩ := cells11 BK301.out) | ((with_reducible refine gate_callee (f := 24) rfl ?_); refine goesL_ (some 12) rfl rfl Try.func24 (by kernel_rfl) rfl #[.slice Ao1002 l0_10.length co1002, .int .i64 t302] rfl wT ?_; (with_reducible refine (laws_markByteS.calls k (fun k_ => some k_ = (.slice Ao1002 l0_10.length co1002 : Value).ownBlock) (.slice Ao1002 l0_10.length co1002) l0_10 t302 t304 t305 w0 _ ?side1 ?side2 A4.out).mono ?_); (case side1 => repeat (first | (with_reducible first | exact HB.out | apply below_alloc | apply pw_below_drewN | apply below_drew1 | refine below_set ?_ GE301.out) | exact HB.out)); (case side2 => exact Kd.R_tight rfl HO0_10.out); rintro e w1007 ⟨rfl, hy0, hb, hkp⟩; refine ⟨_, rfl, ?_⟩; have n0_ := Aside0.mk (Kd.R_mono (ok' := fun k_ => ((P0_9_ k_ ∨ P0_10_ k_) ∨ w.heap.size ≤ k_) ∧ some k_ ≠ (.slice Ao1002 l0_10.length co1002 : Value).ownBlock) (Kd.R_keptB (HO0_9.out) hkp (fun k_ hk_ hs_ => (hk_.2) hs_)) (fun k_ hk_ => ⟨hk_.1.1, hk_.1.2⟩)); have n1_ := Aside0.mk (Kd.R_reok rfl hy0 (fun k_ e_ => HO0_10.out.1 k_ e_)); have n2_ := Aside0.mk (blk_kept (Bh BK301) hkp (fun hs_ => (fun e_ => (Kd.R_ne HO0_10.out BK301.out (by decide)) e_) hs_)); have n3_ := Aside0.mk (Kept.then_ (S := (fun k_ => P0_9_ k_ ∨ P0_10_ k_)) (by repeat (first | (with_reducible first | exact HK.out | apply Kept.alloc | apply Kept.drewN | apply Kept.drew | refine Kept.setCell ?_ (.inr GW301.out) _) | exact HK.out)) hkp (fun k_ hs_ => (fun e_ => (HO0_10.out.1 k_ e_.symm).1) hs_)); have n4_ := Aside0.mk (hb); clear HO0_9; clear HO0_10; clear BK301; clear HK; clear HB; have HO0_9 := n0_; have HO0_10 := n1_; have BK301 := n2_; have HK := n3_; have HB := n4_; clear n0_ n1_ n2_ n3_ n4_; (try clear hb); (try clear hkp); (try clear hy0)))
  go_ret
  exact ⟨by first | rfl | (simp [errW_none, errW_some] <;> rfl) | (simp [*, errW_none, errW_some] <;> rfl), Kd.R_mono (Rh HO0_9) (fun _ hk => hk.1), Kd.R_mono (Rh HO0_10) (fun _ hk => hk.1), wB, by repeat (first | (with_reducible first | exact HK.out | apply Kept.alloc | apply Kept.drewN | apply Kept.drew | refine Kept.setCell ?_ (.inr GW301.out) _) | exact HK.out)⟩

/-! ### laws_markPacketS: function 11 -/
def laws_markPacketS.l0 : Nat → List S29 → Int → Int → Option (Int × List S29)
  | 0, _, _, _ => none
  | k + 1, x0, x1, x5 => if x5 < (x0.length : Int) then (if 0 ≤ x5 then ((laws_markByteS.f k (rd_T29 x0 x5).f9 (wrap64 ((wrap64 ((wrap64 ((wrap64 ((wrap64 ((wrap64 ((wrap64 ((wrap64 ((wrap64 (x1 + 1)) + 1)) + 1)) + 1)) + 1)) + 1)) + 1)) + 1)) + 1))).bind fun t => (laws_markByteS.f k (rd_T29 x0 x5).f10 t.1).bind fun u => laws_markPacketS.l0 k (x0.set x5.toNat (⟨x1, (wrap64 (x1 + 1)), ((Int.tmod (wrap64 ((wrap64 (x1 + 1)) + 1)) 3) == 0), ((Int.tmod (wrap64 ((wrap64 ((wrap64 (x1 + 1)) + 1)) + 1)) 3) == 0), (wrap64 ((wrap64 ((wrap64 ((wrap64 (x1 + 1)) + 1)) + 1)) + 1)), (wrap64 ((wrap64 ((wrap64 ((wrap64 ((wrap64 (x1 + 1)) + 1)) + 1)) + 1)) + 1)), (wrap64 ((wrap64 ((wrap64 ((wrap64 ((wrap64 ((wrap64 (x1 + 1)) + 1)) + 1)) + 1)) + 1)) + 1)), (wrap64 ((wrap64 ((wrap64 ((wrap64 ((wrap64 ((wrap64 ((wrap64 (x1 + 1)) + 1)) + 1)) + 1)) + 1)) + 1)) + 1)), (wrap64 ((wrap64 ((wrap64 ((wrap64 ((wrap64 ((wrap64 ((wrap64 ((wrap64 (x1 + 1)) + 1)) + 1)) + 1)) + 1)) + 1)) + 1)) + 1)), t.2, u.2⟩ : S29)) u.1 (wrap64 (x5 + 1))) else none) else some (x1, x0)
def laws_markPacketS.f (k : Nat) (l0 : List S29) (a1 : Int) : Option (Int × List S29) := laws_markPacketS.l0 k l0 a1 0
theorem laws_markPacketS.mono_l : ∀ k, (∀ y0 y1 y2, LeO (laws_markPacketS.l0 k y0 y1 y2) (laws_markPacketS.l0 (k + 1) y0 y1 y2))
  | 0 => fun _ _ _ r h => by simp [laws_markPacketS.l0] at h
  | k + 1 => by
    have ih0 := laws_markPacketS.mono_l k
    · intro y0 y1 y2
      unfold laws_markPacketS.l0
      repeat' first
      | (with_reducible exact ih0 _ _ _)
      | (with_reducible exact laws_markByteS.mono _ _ _)
      | (with_reducible exact LeO.refl _)
      | (with_reducible exact LeO.none _)
      | (with_reducible refine LeO.ite ?_ ?_)
      | (with_reducible refine LeO.bind ?_ (fun _ => ?_))
      | exact ih0 _ _ _
      | exact laws_markByteS.mono _ _ _
      | exact LeO.none _
      | refine LeO.ite ?_ ?_
      | refine LeO.bind ?_ (fun _ => ?_)
theorem laws_markPacketS.mono : ∀ a0 a1 k, LeO (laws_markPacketS.f k a0 a1) (laws_markPacketS.f (k + 1) a0 a1) := by
  intro a0 a1 k
  unfold laws_markPacketS.f
  exact laws_markPacketS.mono_l k _ _ _
set_option maxHeartbeats 60000000 in
set_option maxRecDepth 100000 in
theorem laws_markPacketS.calls (k : Nat) (P0_ : Nat → Prop) (u9000_ : Value) (l0 : List S29) (a1 : Int) (r1 : Int) (r2 : List S29) (w0 w : World) (hB : Below w0.heap.size w0 w) (ho0 : Kd.S kP 29 w w0.heap.size P0_ u9000_ l0) (h : laws_markPacketS.f k l0 a1 = some (r1, r2)) :
    Calls Try.prog 11 #[u9000_, .int .i64 a1] w fun e w' => e = .returned (.int .i64 r1) ∧ Kd.S kP 29 w' w0.heap.size P0_ u9000_ r2 ∧ Below w0.heap.size w0 w' ∧ Kept w w' (fun k_ => P0_ k_) := by
  have HO0 := Aside0.mk ho0
  clear ho0
  have HK := Aside0.mk (Kept.refl w (fun k_ => P0_ k_))
  have HB := Aside0.mk hB
  clear hB
  have H : (laws_markPacketS.l0 k l0 a1 0) = some (r1, r2) := h
  clear h
  have H' := Aside0.mk H
  clear H
  go_enter Try.func11, Try.ntmps11
  go_wp2
  go_loopg [1, 5] k (fun kq v1 v5 w' => ∃ (x0_1 : List S29) (x1_1 : Int) (x5_1 : Int), v1 = .int .i64 x1_1 ∧ v5 = .int .i64 x5_1 ∧ Aside0 (laws_markPacketS.l0 kq x0_1 x1_1 x5_1 = some (r1, r2)) ∧ Aside0 (kq ≤ k) ∧ Aside0 (Kd.S kP 29 w' w0.heap.size P0_ u9000_ x0_1) ∧ Aside0 (Kept w w' (fun k_ => P0_ k_)) ∧ Aside0 (Below w0.heap.size w0 w'))
  case atStart => exact ⟨(l0), (a1), (0), (by first | rfl | (simp; done) | (simp [*]; done)), (by first | rfl | (simp; done) | (simp [*]; done)), H', ⟨Nat.le_refl _⟩, ⟨Sh HO0⟩, ⟨by repeat (first | (with_reducible first | exact HK.out | apply Kept.alloc | apply Kept.drewN | apply Kept.drew) | exact HK.out)⟩, ⟨wB⟩⟩
  case round =>
    clear H'
    obtain ⟨x0_1, x1_1, x5_1, rfl, rfl, HA, HK1, HO_0, HK, HB⟩ := hrel
    cases gk with
    | zero => exact absurd HA.out (by simp [laws_markPacketS.l0])
    | succ k1 =>
      have H := HA.out
      clear HA
      simp only [laws_markPacketS.l0] at H
      by_cases c1001 : x5_1 < (x0_1.length : Int)
      · rw [if_pos c1001] at H
        have c1001b0 : decide (x5_1 < (x0_1.length : Int)) = true := decide_eq_true c1001
        by_cases c1002 : 0 ≤ x5_1
        · rw [if_pos c1002] at H
          have c1002b0 : decide (0 ≤ x5_1) = true := decide_eq_true c1002
          replace H := Option.bind_eq_some_iff.mp H
          obtain ⟨⟨t1, t2⟩, A30, H⟩ := H
          replace H := Option.bind_eq_some_iff.mp H
          obtain ⟨⟨u1, u2⟩, A40, H⟩ := H
          replace H : laws_markPacketS.l0 k1 (x0_1.set x5_1.toNat (⟨x1_1, (wrap64 (x1_1 + 1)), ((Int.tmod (wrap64 ((wrap64 (x1_1 + 1)) + 1)) 3) == 0), ((Int.tmod (wrap64 ((wrap64 ((wrap64 (x1_1 + 1)) + 1)) + 1)) 3) == 0), (wrap64 ((wrap64 ((wrap64 ((wrap64 (x1_1 + 1)) + 1)) + 1)) + 1)), (wrap64 ((wrap64 ((wrap64 ((wrap64 ((wrap64 (x1_1 + 1)) + 1)) + 1)) + 1)) + 1)), (wrap64 ((wrap64 ((wrap64 ((wrap64 ((wrap64 ((wrap64 (x1_1 + 1)) + 1)) + 1)) + 1)) + 1)) + 1)), (wrap64 ((wrap64 ((wrap64 ((wrap64 ((wrap64 ((wrap64 ((wrap64 (x1_1 + 1)) + 1)) + 1)) + 1)) + 1)) + 1)) + 1)), (wrap64 ((wrap64 ((wrap64 ((wrap64 ((wrap64 ((wrap64 ((wrap64 ((wrap64 (x1_1 + 1)) + 1)) + 1)) + 1)) + 1)) + 1)) + 1)) + 1)), t2, u2⟩ : S29)) u1 (wrap64 (x5_1 + 1)) = some (r1, r2) := H
          replace A40 : laws_markByteS.f k1 (rd_T29 x0_1 x5_1).f10 t1 = some (u1, u2) := A40
          have A3 := Aside0.mk A30
          have A4 := Aside0.mk A40
          clear A30 A40
          have H' := Aside0.mk H
          clear H
          obtain ⟨g, cap, eu, gb, gl, _⟩ := Kd.S_form HO_0.out (by omega)
          subst eu
          have GB := Aside0.mk gb
          have GP := Aside0.mk ((Kd.S_R HO_0.out).1 g rfl)
          obtain ⟨oki, c, hcl, hM, hcc, hfr, hoki, hH⟩ := Kd.S_elem HO_0.out z29 x5_1 c1002 c1001
          obtain ⟨hM1, hap⟩ := hM
          obtain ⟨v9, v10, rfl, ge9, ge10⟩ := k29_openM hM1
          replace ge9 := (show Kd.R (Kd.int .u8) 5 _ _ _ v9 (rd_T29 x0_1 x5_1).f9 from ge9)
          replace ge10 := (show Kd.R (Kd.int .u8) 5 _ _ _ v10 (rd_T29 x0_1 x5_1).f10 from ge10)
          have AP := Aside0.mk (show ∀ k_, v9.ownBlock = some k_ → v10.ownBlock ≠ some k_ from hap)
          have G9 := Aside0.mk ge9
          have G10 := Aside0.mk ge10
          have OK := Aside0.mk hoki
          have D0 := Aside0.mk c1002
          have D1 := Aside0.mk c1001
          have HH0 := Aside0.mk (show Kd.H kP 29 _ _ _ _ x0_1 x5_1 oki [.int .i64 (rd_T29 x0_1 x5_1).f0, .int .i64 (rd_T29 x0_1 x5_1).f1, .bool (rd_T29 x0_1 x5_1).f2, .bool (rd_T29 x0_1 x5_1).f3, .int .i64 (rd_T29 x0_1 x5_1).f4, .int .i64 (rd_T29 x0_1 x5_1).f5, .int .i64 (rd_T29 x0_1 x5_1).f6, .int .i64 (rd_T29 x0_1 x5_1).f7, .int .i64 (rd_T29 x0_1 x5_1).f8, v9, v10] from hH)
          obtain ⟨hc_, hf_⟩ := Kd.H_at HH0.out D0.out D1.out
          have y0 : wr.cell? ⟨g, x5_1.toNat * 11, none⟩ = some (.int .i64 (rd_T29 x0_1 x5_1).f0) := hc_ 0 _ rfl
          have z0 : wr.frozen? ⟨g, x5_1.toNat * 11, none⟩ = false := hf_ 0
          clear hc_ hf_
          clear hcl hcc hfr hoki hH gb gl ge9 ge10 hap hM1
          have p1003 : (0 ≤ (x5_1 : Int)) = True := eq_true c1002
          have q1003 : (x5_1 < (x0_1.length : Int)) = True := eq_true c1001
          clear c1001 c1002
          go_wp2_with (first
            | ((with_reducible refine gate_store (t := 2) (p := 16) rfl ?_); refine store_event (t := 2) (p := 16) (v := ?vo_0) (w1 := (wr.setCell ⟨g, x5_1.toNat * 11, none⟩ (.int .i64 x1_1))) ?hg ?ho ?hn ?hr ?_; (case ho => rfl); (case hg => rfl); (case hn => rfl); (case hr => first | (go_simp; done) | (go_simp; rfl)); intro s1 hw; have HH1 : Aside0 (Kd.H kP 29 s1 w0.heap.size P0_ (.slice (some ⟨g, 0, none⟩) x0_1.length cap) x0_1 x5_1 oki [.int .i64 x1_1, .int .i64 (rd_T29 x0_1 x5_1).f1, .bool (rd_T29 x0_1 x5_1).f2, .bool (rd_T29 x0_1 x5_1).f3, .int .i64 (rd_T29 x0_1 x5_1).f4, .int .i64 (rd_T29 x0_1 x5_1).f5, .int .i64 (rd_T29 x0_1 x5_1).f6, .int .i64 (rd_T29 x0_1 x5_1).f7, .int .i64 (rd_T29 x0_1 x5_1).f8, v9, v10]) := ⟨by rw [hw]; exact (Kd.H_seg HH0.out D0.out D1.out (seg := [.int .i64 x1_1]) (j := 0) (show 0 + 1 ≤ 11 by decide) (fun q hq => by rw [List.mem_singleton.1 hq]; rfl)).1⟩; have KK1 : Aside0 (Kept w s1 (fun k_ => P0_ k_)) := ⟨by rw [hw]; exact Kept.setCell HK.out (Or.inl GP.out) _⟩; have BB1 : Aside0 (Below w0.heap.size w0 s1) := ⟨by rw [hw]; exact below_set HB.out GB.out⟩; have GA1 : Aside0 (Kd.R (Kd.int .u8) 5 s1 w0.heap.size oki v9 (rd_T29 x0_1 x5_1).f9) := ⟨by rw [hw]; exact Kd.R_far (p := ⟨g, x5_1.toNat * 11, none⟩) G9.out (fun k_ h_ => (OK.out k_ h_).2) _⟩; have GC1 : Aside0 (Kd.R (Kd.int .u8) 5 s1 w0.heap.size oki v10 (rd_T29 x0_1 x5_1).f10) := ⟨by rw [hw]; exact Kd.R_far (p := ⟨g, x5_1.toNat * 11, none⟩) G10.out (fun k_ h_ => (OK.out k_ h_).2) _⟩; clear hw y0 z0; obtain ⟨hc_, hf_⟩ := Kd.H_at HH1.out D0.out D1.out; have y1 : s1.cell? ⟨g, x5_1.toNat * 11 + 1, none⟩ = some (.int .i64 (rd_T29 x0_1 x5_1).f1) := hc_ 1 _ rfl; have z1 : s1.frozen? ⟨g, x5_1.toNat * 11 + 1, none⟩ = false := hf_ 1; clear hc_ hf_)
            | ((with_reducible refine gate_store (t := 2) (p := 23) rfl ?_); refine store_event (t := 2) (p := 23) (v := ?vo_1) (w1 := (s1.setCell ⟨g, x5_1.toNat * 11 + 1, none⟩ (.int .i64 (wrap64 (x1_1 + 1))))) ?hg ?ho ?hn ?hr ?_; (case ho => rfl); (case hg => rfl); (case hn => rfl); (case hr => first | (go_simp; done) | (go_simp; rfl)); intro s2 hw; have HH2 : Aside0 (Kd.H kP 29 s2 w0.heap.size P0_ (.slice (some ⟨g, 0, none⟩) x0_1.length cap) x0_1 x5_1 oki [.int .i64 x1_1, .int .i64 (wrap64 (x1_1 + 1)), .bool (rd_T29 x0_1 x5_1).f2, .bool (rd_T29 x0_1 x5_1).f3, .int .i64 (rd_T29 x0_1 x5_1).f4, .int .i64 (rd_T29 x0_1 x5_1).f5, .int .i64 (rd_T29 x0_1 x5_1).f6, .int .i64 (rd_T29 x0_1 x5_1).f7, .int .i64 (rd_T29 x0_1 x5_1).f8, v9, v10]) := ⟨by rw [hw]; exact (Kd.H_seg HH1.out D0.out D1.out (seg := [.int .i64 (wrap64 (x1_1 + 1))]) (j := 1) (show 1 + 1 ≤ 11 by decide) (fun q hq => by rw [List.mem_singleton.1 hq]; rfl)).1⟩; have KK2 : Aside0 (Kept w s2 (fun k_ => P0_ k_)) := ⟨by rw [hw]; exact Kept.setCell KK1.out (Or.inl GP.out) _⟩; have BB2 : Aside0 (Below w0.heap.size w0 s2) := ⟨by rw [hw]; exact below_set BB1.out GB.out⟩; have GA2 : Aside0 (Kd.R (Kd.int .u8) 5 s2 w0.heap.size oki v9 (rd_T29 x0_1 x5_1).f9) := ⟨by rw [hw]; exact Kd.R_far (p := ⟨g, x5_1.toNat * 11 + 1, none⟩) GA1.out (fun k_ h_ => (OK.out k_ h_).2) _⟩; have GC2 : Aside0 (Kd.R (Kd.int .u8) 5 s2 w0.heap.size oki v10 (rd_T29 x0_1 x5_1).f10) := ⟨by rw [hw]; exact Kd.R_far (p := ⟨g, x5_1.toNat * 11 + 1, none⟩) GC1.out (fun k_ h_ => (OK.out k_ h_).2) _⟩; clear hw y1 z1; obtain ⟨hc_, hf_⟩ := Kd.H_at HH2.out D0.out D1.out; have y2 : s2.cell? ⟨g, x5_1.toNat * 11 + 2, none⟩ = some (.bool (rd_T29 x0_1 x5_1).f2) := hc_ 2 _ rfl; have z2 : s2.frozen? ⟨g, x5_1.toNat * 11 + 2, none⟩ = false := hf_ 2; clear hc_ hf_)
            | ((with_reducible refine gate_store (t := 4) (p := 32) rfl ?_); refine store_event (t := 4) (p := 32) (v := ?vo_2) (w1 := (s2.setCell ⟨g, x5_1.toNat * 11 + 2, none⟩ (.bool ((Int.tmod (wrap64 ((wrap64 (x1_1 + 1)) + 1)) 3) == 0)))) ?hg ?ho ?hn ?hr ?_; (case ho => rfl); (case hg => rfl); (case hn => rfl); (case hr => first | (go_simp; done) | (go_simp; rfl)); intro s3 hw; have HH3 : Aside0 (Kd.H kP 29 s3 w0.heap.size P0_ (.slice (some ⟨g, 0, none⟩) x0_1.length cap) x0_1 x5_1 oki [.int .i64 x1_1, .int .i64 (wrap64 (x1_1 + 1)), .bool ((Int.tmod (wrap64 ((wrap64 (x1_1 + 1)) + 1)) 3) == 0), .bool (rd_T29 x0_1 x5_1).f3, .int .i64 (rd_T29 x0_1 x5_1).f4, .int .i64 (rd_T29 x0_1 x5_1).f5, .int .i64 (rd_T29 x0_1 x5_1).f6, .int .i64 (rd_T29 x0_1 x5_1).f7, .int .i64 (rd_T29 x0_1 x5_1).f8, v9, v10]) := ⟨by rw [hw]; exact (Kd.H_seg HH2.out D0.out D1.out (seg := [.bool ((Int.tmod (wrap64 ((wrap64 (x1_1 + 1)) + 1)) 3) == 0)]) (j := 2) (show 2 + 1 ≤ 11 by decide) (fun q hq => by rw [List.mem_singleton.1 hq]; rfl)).1⟩; have KK3 : Aside0 (Kept w s3 (fun k_ => P0_ k_)) := ⟨by rw [hw]; exact Kept.setCell KK2.out (Or.inl GP.out) _⟩; have BB3 : Aside0 (Below w0.heap.size w0 s3) := ⟨by rw [hw]; exact below_set BB2.out GB.out⟩; have GA3 : Aside0 (Kd.R (Kd.int .u8) 5 s3 w0.heap.size oki v9 (rd_T29 x0_1 x5_1).f9) := ⟨by rw [hw]; exact Kd.R_far (p := ⟨g, x5_1.toNat * 11 + 2, none⟩) GA2.out (fun k_ h_ => (OK.out k_ h_).2) _⟩; have GC3 : Aside0 (Kd.R (Kd.int .u8) 5 s3 w0.heap.size oki v10 (rd_T29 x0_1 x5_1).f10) := ⟨by rw [hw]; exact Kd.R_far (p := ⟨g, x5_1.toNat * 11 + 2, none⟩) GC2.out (fun k_ h_ => (OK.out k_ h_).2) _⟩; clear hw y2 z2; obtain ⟨hc_, hf_⟩ := Kd.H_at HH3.out D0.out D1.out; have y3 : s3.cell? ⟨g, x5_1.toNat * 11 + 3, none⟩ = some (.bool (rd_T29 x0_1 x5_1).f3) := hc_ 3 _ rfl; have z3 : s3.frozen? ⟨g, x5_1.toNat * 11 + 3, none⟩ = false := hf_ 3; clear hc_ hf_)
            | ((with_reducible refine gate_store (t := 4) (p := 41) rfl ?_); refine store_event (t := 4) (p := 41) (v := ?vo_3) (w1 := (s3.setCell ⟨g, x5_1.toNat * 11 + 3, none⟩ (.bool ((Int.tmod (wrap64 ((wrap64 ((wrap64 (x1_1 + 1)) + 1)) + 1)) 3) == 0)))) ?hg ?ho ?hn ?hr ?_; (case ho => rfl); (case hg => rfl); (case hn => rfl); (case hr => first | (go_simp; done) | (go_simp; rfl)); intro s4 hw; have HH4 : Aside0 (Kd.H kP 29 s4 w0.heap.size P0_ (.slice (some ⟨g, 0, none⟩) x0_1.length cap) x0_1 x5_1 oki [.int .i64 x1_1, .int .i64 (wrap64 (x1_1 + 1)), .bool ((Int.tmod (wrap64 ((wrap64 (x1_1 + 1)) + 1)) 3) == 0), .bool ((Int.tmod (wrap64 ((wrap64 ((wrap64 (x1_1 + 1)) + 1)) + 1)) 3) == 0), .int .i64 (rd_T29 x0_1 x5_1).f4, .int .i64 (rd_T29 x0_1 x5_1).f5, .int .i64 (rd_T29 x0_1 x5_1).f6, .int .i64 (rd_T29 x0_1 x5_1).f7, .int .i64 (rd_T29 x0_1 x5_1).f8, v9, v10]) := ⟨by rw [hw]; exact (Kd.H_seg HH3.out D0.out D1.out (seg := [.bool ((Int.tmod (wrap64 ((wrap64 ((wrap64 (x1_1 + 1)) + 1)) + 1)) 3) == 0)]) (j := 3) (show 3 + 1 ≤ 11 by decide) (fun q hq => by rw [List.mem_singleton.1 hq]; rfl)).1⟩; have KK4 : Aside0 (Kept w s4 (fun k_ => P0_ k_)) := ⟨by rw [hw]; exact Kept.setCell KK3.out (Or.inl GP.out) _⟩; have BB4 : Aside0 (Below w0.heap.size w0 s4) := ⟨by rw [hw]; exact below_set BB3.out GB.out⟩; have GA4 : Aside0 (Kd.R (Kd.int .u8) 5 s4 w0.heap.size oki v9 (rd_T29 x0_1 x5_1).f9) := ⟨by rw [hw]; exact Kd.R_far (p := ⟨g, x5_1.toNat * 11 + 3, none⟩) GA3.out (fun k_ h_ => (OK.out k_ h_).2) _⟩; have GC4 : Aside0 (Kd.R (Kd.int .u8) 5 s4 w0.heap.size oki v10 (rd_T29 x0_1 x5_1).f10) := ⟨by rw [hw]; exact Kd.R_far (p := ⟨g, x5_1.toNat * 11 + 3, none⟩) GC3.out (fun k_ h_ => (OK.out k_ h_).2) _⟩; clear hw y3 z3; obtain ⟨hc_, hf_⟩ := Kd.H_at HH4.out D0.out D1.out; have y4 : s4.cell? ⟨g, x5_1.toNat * 11 + 4, none⟩ = some (.int .i64 (rd_T29 x0_1 x5_1).f4) := hc_ 4 _ rfl; have z4 : s4.frozen? ⟨g, x5_1.toNat * 11 + 4, none⟩ = false := hf_ 4; clear hc_ hf_)
            | ((with_reducible refine gate_store (t := 2) (p := 48) rfl ?_); refine store_event (t := 2) (p := 48) (v := ?vo_4) (w1 := (s4.setCell ⟨g, x5_1.toNat * 11 + 4, none⟩ (.int .i64 (wrap64 ((wrap64 ((wrap64 ((wrap64 (x1_1 + 1)) + 1)) + 1)) + 1))))) ?hg ?ho ?hn ?hr ?_; (case ho => rfl); (case hg => rfl); (case hn => rfl); (case hr => first | (go_simp; done) | (go_simp; rfl)); intro s5 hw; have HH5 : Aside0 (Kd.H kP 29 s5 w0.heap.size P0_ (.slice (some ⟨g, 0, none⟩) x0_1.length cap) x0_1 x5_1 oki [.int .i64 x1_1, .int .i64 (wrap64 (x1_1 + 1)), .bool ((Int.tmod (wrap64 ((wrap64 (x1_1 + 1)) + 1)) 3) == 0), .bool ((Int.tmod (wrap64 ((wrap64 ((wrap64 (x1_1 + 1)) + 1)) + 1)) 3) == 0), .int .i64 (wrap64 ((wrap64 ((wrap64 ((wrap64 (x1_1 + 1)) + 1)) + 1)) + 1)), .int .i64 (rd_T29 x0_1 x5_1).f5, .int .i64 (rd_T29 x0_1 x5_1).f6, .int .i64 (rd_T29 x0_1 x5_1).f7, .int .i64 (rd_T29 x0_1 x5_1).f8, v9, v10]) := ⟨by rw [hw]; exact (Kd.H_seg HH4.out D0.out D1.out (seg := [.int .i64 (wrap64 ((wrap64 ((wrap64 ((wrap64 (x1_1 + 1)) + 1)) + 1)) + 1))]) (j := 4) (show 4 + 1 ≤ 11 by decide) (fun q hq => by rw [List.mem_singleton.1 hq]; rfl)).1⟩; have KK5 : Aside0 (Kept w s5 (fun k_ => P0_ k_)) := ⟨by rw [hw]; exact Kept.setCell KK4.out (Or.inl GP.out) _⟩; have BB5 : Aside0 (Below w0.heap.size w0 s5) := ⟨by rw [hw]; exact below_set BB4.out GB.out⟩; have GA5 : Aside0 (Kd.R (Kd.int .u8) 5 s5 w0.heap.size oki v9 (rd_T29 x0_1 x5_1).f9) := ⟨by rw [hw]; exact Kd.R_far (p := ⟨g, x5_1.toNat * 11 + 4, none⟩) GA4.out (fun k_ h_ => (OK.out k_ h_).2) _⟩; have GC5 : Aside0 (Kd.R (Kd.int .u8) 5 s5 w0.heap.size oki v10 (rd_T29 x0_1 x5_1).f10) := ⟨by rw [hw]; exact Kd.R_far (p := ⟨g, x5_1.toNat * 11 + 4, none⟩) GC4.out (fun k_ h_ => (OK.out k_ h_).2) _⟩; clear hw y4 z4; obtain ⟨hc_, hf_⟩ := Kd.H_at HH5.out D0.out D1.out; have y5 : s5.cell? ⟨g, x5_1.toNat * 11 + 5, none⟩ = some (.int .i64 (rd_T29 x0_1 x5_1).f5) := hc_ 5 _ rfl; have z5 : s5.frozen? ⟨g, x5_1.toNat * 11 + 5, none⟩ = false := hf_ 5; clear hc_ hf_)
            | ((with_reducible refine gate_store (t := 2) (p := 55) rfl ?_); refine store_event (t := 2) (p := 55) (v := ?vo_5) (w1 := (s5.setCell ⟨g, x5_1.toNat * 11 + 5, none⟩ (.int .i64 (wrap64 ((wrap64 ((wrap64 ((wrap64 ((wrap64 (x1_1 + 1)) + 1)) + 1)) + 1)) + 1))))) ?hg ?ho ?hn ?hr ?_; (case ho => rfl); (case hg => rfl); (case hn => rfl); (case hr => first | (go_simp; done) | (go_simp; rfl)); intro s6 hw; have HH6 : Aside0 (Kd.H kP 29 s6 w0.heap.size P0_ (.slice (some ⟨g, 0, none⟩) x0_1.length cap) x0_1 x5_1 oki [.int .i64 x1_1, .int .i64 (wrap64 (x1_1 + 1)), .bool ((Int.tmod (wrap64 ((wrap64 (x1_1 + 1)) + 1)) 3) == 0), .bool ((Int.tmod (wrap64 ((wrap64 ((wrap64 (x1_1 + 1)) + 1)) + 1)) 3) == 0), .int .i64 (wrap64 ((wrap64 ((wrap64 ((wrap64 (x1_1 + 1)) + 1)) + 1)) + 1)), .int .i64 (wrap64 ((wrap64 ((wrap64 ((wrap64 ((wrap64 (x1_1 + 1)) + 1)) + 1)) + 1)) + 1)), .int .i64 (rd_T29 x0_1 x5_1).f6, .int .i64 (rd_T29 x0_1 x5_1).f7, .int .i64 (rd_T29 x0_1 x5_1).f8, v9, v10]) := ⟨by rw [hw]; exact (Kd.H_seg HH5.out D0.out D1.out (seg := [.int .i64 (wrap64 ((wrap64 ((wrap64 ((wrap64 ((wrap64 (x1_1 + 1)) + 1)) + 1)) + 1)) + 1))]) (j := 5) (show 5 + 1 ≤ 11 by decide) (fun q hq => by rw [List.mem_singleton.1 hq]; rfl)).1⟩; have KK6 : Aside0 (Kept w s6 (fun k_ => P0_ k_)) := ⟨by rw [hw]; exact Kept.setCell KK5.out (Or.inl GP.out) _⟩; have BB6 : Aside0 (Below w0.heap.size w0 s6) := ⟨by rw [hw]; exact below_set BB5.out GB.out⟩; have GA6 : Aside0 (Kd.R (Kd.int .u8) 5 s6 w0.heap.size oki v9 (rd_T29 x0_1 x5_1).f9) := ⟨by rw [hw]; exact Kd.R_far (p := ⟨g, x5_1.toNat * 11 + 5, none⟩) GA5.out (fun k_ h_ => (OK.out k_ h_).2) _⟩; have GC6 : Aside0 (Kd.R (Kd.int .u8) 5 s6 w0.heap.size oki v10 (rd_T29 x0_1 x5_1).f10) := ⟨by rw [hw]; exact Kd.R_far (p := ⟨g, x5_1.toNat * 11 + 5, none⟩) GC5.out (fun k_ h_ => (OK.out k_ h_).2) _⟩; clear hw y5 z5; obtain ⟨hc_, hf_⟩ := Kd.H_at HH6.out D0.out D1.out; have y6 : s6.cell? ⟨g, x5_1.toNat * 11 + 6, none⟩ = some (.int .i64 (rd_T29 x0_1 x5_1).f6) := hc_ 6 _ rfl; have z6 : s6.frozen? ⟨g, x5_1.toNat * 11 + 6, none⟩ = false := hf_ 6; clear hc_ hf_)
            | ((with_reducible refine gate_store (t := 2) (p := 62) rfl ?_); refine store_event (t := 2) (p := 62) (v := ?vo_6) (w1 := (s6.setCell ⟨g, x5_1.toNat * 11 + 6, none⟩ (.int .i64 (wrap64 ((wrap64 ((wrap64 ((wrap64 ((wrap64 ((wrap64 (x1_1 + 1)) + 1)) + 1)) + 1)) + 1)) + 1))))) ?hg ?ho ?hn ?hr ?_; (case ho => rfl); (case hg => rfl); (case hn => rfl); (case hr => first | (go_simp; done) | (go_simp; rfl)); intro s7 hw; have HH7 : Aside0 (Kd.H kP 29 s7 w0.heap.size P0_ (.slice (some ⟨g, 0, none⟩) x0_1.length cap) x0_1 x5_1 oki [.int .i64 x1_1, .int .i64 (wrap64 (x1_1 + 1)), .bool ((Int.tmod (wrap64 ((wrap64 (x1_1 + 1)) + 1)) 3) == 0), .bool ((Int.tmod (wrap64 ((wrap64 ((wrap64 (x1_1 + 1)) + 1)) + 1)) 3) == 0), .int .i64 (wrap64 ((wrap64 ((wrap64 ((wrap64 (x1_1 + 1)) + 1)) + 1)) + 1)), .int .i64 (wrap64 ((wrap64 ((wrap64 ((wrap64 ((wrap64 (x1_1 + 1)) + 1)) + 1)) + 1)) + 1)), .int .i64 (wrap64 ((wrap64 ((wrap64 ((wrap64 ((wrap64 ((wrap64 (x1_1 + 1)) + 1)) + 1)) + 1)) + 1)) + 1)), .int .i64 (rd_T29 x0_1 x5_1).f7, .int .i64 (rd_T29 x0_1 x5_1).f8, v9, v10]) := ⟨by rw [hw]; exact (Kd.H_seg HH6.out D0.out D1.out (seg := [.int .i64 (wrap64 ((wrap64 ((wrap64 ((wrap64 ((wrap64 ((wrap64 (x1_1 + 1)) + 1)) + 1)) + 1)) + 1)) + 1))]) (j := 6) (show 6 + 1 ≤ 11 by decide) (fun q hq => by rw [List.mem_singleton.1 hq]; rfl)).1⟩; have KK7 : Aside0 (Kept w s7 (fun k_ => P0_ k_)) := ⟨by rw [hw]; exact Kept.setCell KK6.out (Or.inl GP.out) _⟩; have BB7 : Aside0 (Below w0.heap.size w0 s7) := ⟨by rw [hw]; exact below_set BB6.out GB.out⟩; have GA7 : Aside0 (Kd.R (Kd.int .u8) 5 s7 w0.heap.size oki v9 (rd_T29 x0_1 x5_1).f9) := ⟨by rw [hw]; exact Kd.R_far (p := ⟨g, x5_1.toNat * 11 + 6, none⟩) GA6.out (fun k_ h_ => (OK.out k_ h_).2) _⟩; have GC7 : Aside0 (Kd.R (Kd.int .u8) 5 s7 w0.heap.size oki v10 (rd_T29 x0_1 x5_1).f10) := ⟨by rw [hw]; exact Kd.R_far (p := ⟨g, x5_1.toNat * 11 + 6, none⟩) GC6.out (fun k_ h_ => (OK.out k_ h_).2) _⟩; clear hw y6 z6; obtain ⟨hc_, hf_⟩ := Kd.H_at HH7.out D0.out D1.out; have y7 : s7.cell? ⟨g, x5_1.toNat * 11 + 7, none⟩ = some (.int .i64 (rd_T29 x0_1 x5_1).f7) := hc_ 7 _ rfl; have z7 : s7.frozen? ⟨g, x5_1.toNat * 11 + 7, none⟩ = false := hf_ 7; clear hc_ hf_)
            | ((with_reducible refine gate_store (t := 2) (p := 69) rfl ?_); refine store_event (t := 2) (p := 69) (v := ?vo_7) (w1 := (s7.setCell ⟨g, x5_1.toNat * 11 + 7, none⟩ (.int .i64 (wrap64 ((wrap64 ((wrap64 ((wrap64 ((wrap64 ((wrap64 ((wrap64 (x1_1 + 1)) + 1)) + 1)) + 1)) + 1)) + 1)) + 1))))) ?hg ?ho ?hn ?hr ?_; (case ho => rfl); (case hg => rfl); (case hn => rfl); (case hr => first | (go_simp; done) | (go_simp; rfl)); intro s8 hw; have HH8 : Aside0 (Kd.H kP 29 s8 w0.heap.size P0_ (.slice (some ⟨g, 0, none⟩) x0_1.length cap) x0_1 x5_1 oki [.int .i64 x1_1, .int .i64 (wrap64 (x1_1 + 1)), .bool ((Int.tmod (wrap64 ((wrap64 (x1_1 + 1)) + 1)) 3) == 0), .bool ((Int.tmod (wrap64 ((wrap64 ((wrap64 (x1_1 + 1)) + 1)) + 1)) 3) == 0), .int .i64 (wrap64 ((wrap64 ((wrap64 ((wrap64 (x1_1 + 1)) + 1)) + 1)) + 1)), .int .i64 (wrap64 ((wrap64 ((wrap64 ((wrap64 ((wrap64 (x1_1 + 1)) + 1)) + 1)) + 1)) + 1)), .int .i64 (wrap64 ((wrap64 ((wrap64 ((wrap64 ((wrap64 ((wrap64 (x1_1 + 1)) + 1)) + 1)) + 1)) + 1)) + 1)), .int .i64 (wrap64 ((wrap64 ((wrap64 ((wrap64 ((wrap64 ((wrap64 ((wrap64 (x1_1 + 1)) + 1)) + 1)) + 1)) + 1)) + 1)) + 1)), .int .i64 (rd_T29 x0_1 x5_1).f8, v9, v10]) := ⟨by rw [hw]; exact (Kd.H_seg HH7.out D0.out D1.out (seg := [.int .i64 (wrap64 ((wrap64 ((wrap64 ((wrap64 ((wrap64 ((wrap64 ((wrap64 (x1_1 + 1)) + 1)) + 1)) + 1)) + 1)) + 1)) + 1))]) (j := 7) (show 7 + 1 ≤ 11 by decide) (fun q hq => by rw [List.mem_singleton.1 hq]; rfl)).1⟩; have KK8 : Aside0 (Kept w s8 (fun k_ => P0_ k_)) := ⟨by rw [hw]; exact Kept.setCell KK7.out (Or.inl GP.out) _⟩; have BB8 : Aside0 (Below w0.heap.size w0 s8) := ⟨by rw [hw]; exact below_set BB7.out GB.out⟩; have GA8 : Aside0 (Kd.R (Kd.int .u8) 5 s8 w0.heap.size oki v9 (rd_T29 x0_1 x5_1).f9) := ⟨by rw [hw]; exact Kd.R_far (p := ⟨g, x5_1.toNat * 11 + 7, none⟩) GA7.out (fun k_ h_ => (OK.out k_ h_).2) _⟩; have GC8 : Aside0 (Kd.R (Kd.int .u8) 5 s8 w0.heap.size oki v10 (rd_T29 x0_1 x5_1).f10) := ⟨by rw [hw]; exact Kd.R_far (p := ⟨g, x5_1.toNat * 11 + 7, none⟩) GC7.out (fun k_ h_ => (OK.out k_ h_).2) _⟩; clear hw y7 z7; obtain ⟨hc_, hf_⟩ := Kd.H_at HH8.out D0.out D1.out; have y8 : s8.cell? ⟨g, x5_1.toNat * 11 + 8, none⟩ = some (.int .i64 (rd_T29 x0_1 x5_1).f8) := hc_ 8 _ rfl; have z8 : s8.frozen? ⟨g, x5_1.toNat * 11 + 8, none⟩ = false := hf_ 8; clear hc_ hf_)
            | ((with_reducible refine gate_store (t := 2) (p := 76) rfl ?_); refine store_event (t := 2) (p := 76) (v := ?vo_8) (w1 := (s8.setCell ⟨g, x5_1.toNat * 11 + 8, none⟩ (.int .i64 (wrap64 ((wrap64 ((wrap64 ((wrap64 ((wrap64 ((wrap64 ((wrap64 ((wrap64 (x1_1 + 1)) + 1)) + 1)) + 1)) + 1)) + 1)) + 1)) + 1))))) ?hg ?ho ?hn ?hr ?_; (case ho => rfl); (case hg => rfl); (case hn => rfl); (case hr => first | (go_simp; done) | (go_simp; rfl)); intro s9 hw; have HH9 : Aside0 (Kd.H kP 29 s9 w0.heap.size P0_ (.slice (some ⟨g, 0, none⟩) x0_1.length cap) x0_1 x5_1 oki [.int .i64 x1_1, .int .i64 (wrap64 (x1_1 + 1)), .bool ((Int.tmod (wrap64 ((wrap64 (x1_1 + 1)) + 1)) 3) == 0), .bool ((Int.tmod (wrap64 ((wrap64 ((wrap64 (x1_1 + 1)) + 1)) + 1)) 3) == 0), .int .i64 (wrap64 ((wrap64 ((wrap64 ((wrap64 (x1_1 + 1)) + 1)) + 1)) + 1)), .int .i64 (wrap64 ((wrap64 ((wrap64 ((wrap64 ((wrap64 (x1_1 + 1)) + 1)) + 1)) + 1)) + 1)), .int .i64 (wrap64 ((wrap64 ((wrap64 ((wrap64 ((wrap64 ((wrap64 (x1_1 + 1)) + 1)) + 1)) + 1)) + 1)) + 1)), .int .i64 (wrap64 ((wrap64 ((wrap64 ((wrap64 ((wrap64 ((wrap64 ((wrap64 (x1_1 + 1)) + 1)) + 1)) + 1)) + 1)) + 1)) + 1)), .int .i64 (wrap64 ((wrap64 ((wrap64 ((wrap64 ((wrap64 ((wrap64 ((wrap64 ((wrap64 (x1_1 + 1)) + 1)) + 1)) + 1)) + 1)) + 1)) + 1)) + 1)), v9, v10]) := ⟨by rw [hw]; exact (Kd.H_seg HH8.out D0.out D1.out (seg := [.int .i64 (wrap64 ((wrap64 ((wrap64 ((wrap64 ((wrap64 ((wrap64 ((wrap64 ((wrap64 (x1_1 + 1)) + 1)) + 1)) + 1)) + 1)) + 1)) + 1)) + 1))]) (j := 8) (show 8 + 1 ≤ 11 by decide) (fun q hq => by rw [List.mem_singleton.1 hq]; rfl)).1⟩; have KK9 : Aside0 (Kept w s9 (fun k_ => P0_ k_)) := ⟨by rw [hw]; exact Kept.setCell KK8.out (Or.inl GP.out) _⟩; have BB9 : Aside0 (Below w0.heap.size w0 s9) := ⟨by rw [hw]; exact below_set BB8.out GB.out⟩; have GA9 : Aside0 (Kd.R (Kd.int .u8) 5 s9 w0.heap.size oki v9 (rd_T29 x0_1 x5_1).f9) := ⟨by rw [hw]; exact Kd.R_far (p := ⟨g, x5_1.toNat * 11 + 8, none⟩) GA8.out (fun k_ h_ => (OK.out k_ h_).2) _⟩; have GC9 : Aside0 (Kd.R (Kd.int .u8) 5 s9 w0.heap.size oki v10 (rd_T29 x0_1 x5_1).f10) := ⟨by rw [hw]; exact Kd.R_far (p := ⟨g, x5_1.toNat * 11 + 8, none⟩) GC8.out (fun k_ h_ => (OK.out k_ h_).2) _⟩; clear hw y8 z8; obtain ⟨hc_, hf_⟩ := Kd.H_at HH9.out D0.out D1.out; have y9 : s9.cell? ⟨g, x5_1.toNat * 11 + 9, none⟩ = some (v9) := hc_ 9 _ rfl; have z9 : s9.frozen? ⟨g, x5_1.toNat * 11 + 9, none⟩ = false := hf_ 9; clear hc_ hf_)
            | ((with_reducible refine gate_callee (f := 24) rfl ?_); refine goesL_ (some 85) rfl rfl Try.func24 (by kernel_rfl) rfl #[v9, .int .i64 (wrap64 ((wrap64 ((wrap64 ((wrap64 ((wrap64 ((wrap64 ((wrap64 ((wrap64 ((wrap64 (x1_1 + 1)) + 1)) + 1)) + 1)) + 1)) + 1)) + 1)) + 1)) + 1))] rfl wT ?_; (with_reducible refine (laws_markByteS.calls k1 (fun k_ => some k_ = v9.ownBlock) v9 (rd_T29 x0_1 x5_1).f9 (wrap64 ((wrap64 ((wrap64 ((wrap64 ((wrap64 ((wrap64 ((wrap64 ((wrap64 ((wrap64 (x1_1 + 1)) + 1)) + 1)) + 1)) + 1)) + 1)) + 1)) + 1)) + 1)) t1 t2 w0 _ ?side1 ?side2 A3.out).mono ?_); (case side1 => exact BB9.out); (case side2 => exact Kd.R_tight rfl GA9.out); rintro e s10 ⟨rfl, hy, hb, hkp⟩; refine ⟨_, rfl, ?_⟩; have HH10 : Aside0 (Kd.H kP 29 s10 w0.heap.size P0_ (.slice (some ⟨g, 0, none⟩) x0_1.length cap) x0_1 x5_1 oki [.int .i64 x1_1, .int .i64 (wrap64 (x1_1 + 1)), .bool ((Int.tmod (wrap64 ((wrap64 (x1_1 + 1)) + 1)) 3) == 0), .bool ((Int.tmod (wrap64 ((wrap64 ((wrap64 (x1_1 + 1)) + 1)) + 1)) 3) == 0), .int .i64 (wrap64 ((wrap64 ((wrap64 ((wrap64 (x1_1 + 1)) + 1)) + 1)) + 1)), .int .i64 (wrap64 ((wrap64 ((wrap64 ((wrap64 ((wrap64 (x1_1 + 1)) + 1)) + 1)) + 1)) + 1)), .int .i64 (wrap64 ((wrap64 ((wrap64 ((wrap64 ((wrap64 ((wrap64 (x1_1 + 1)) + 1)) + 1)) + 1)) + 1)) + 1)), .int .i64 (wrap64 ((wrap64 ((wrap64 ((wrap64 ((wrap64 ((wrap64 ((wrap64 (x1_1 + 1)) + 1)) + 1)) + 1)) + 1)) + 1)) + 1)), .int .i64 (wrap64 ((wrap64 ((wrap64 ((wrap64 ((wrap64 ((wrap64 ((wrap64 ((wrap64 (x1_1 + 1)) + 1)) + 1)) + 1)) + 1)) + 1)) + 1)) + 1)), v9, v10]) := ⟨Kd.H_step HH9.out (fun k_ _ hn_ hlt_ => hkp.2 k_ hlt_ (fun hp_ => hn_ (GA9.out.1 k_ hp_.symm)))⟩; have KK10 := Aside0.mk (Kept.then_ KK9.out hkp (fun k_ h_ => Or.inl (OK.out k_ (GA9.out.1 k_ h_.symm)).1)); have BB10 := Aside0.mk hb; have GX : Aside0 (Kd.R (Kd.int .u8) 5 s10 w0.heap.size oki v10 (rd_T29 x0_1 x5_1).f10) := ⟨Kd.R_mono (Kd.R_kept (Kd.R_tight rfl GC9.out) hkp (fun k_ h_ h2_ => AP.out k_ h2_.symm h_.symm)) (fun k_ h_ => GC9.out.1 k_ h_.symm)⟩; have GY : Aside0 (Kd.R (Kd.int .u8) 5 s10 w0.heap.size oki v9 t2) := ⟨Kd.R_mono (Kd.R_tight rfl hy) (fun k_ h_ => GA9.out.1 k_ h_.symm)⟩; clear hy hb hkp y9 z9; obtain ⟨hc_, hf_⟩ := Kd.H_at HH10.out D0.out D1.out; have y10 : s10.cell? ⟨g, x5_1.toNat * 11 + 10, none⟩ = some (v10) := hc_ 10 _ rfl; have z10 : s10.frozen? ⟨g, x5_1.toNat * 11 + 10, none⟩ = false := hf_ 10; clear hc_ hf_)
            | ((with_reducible refine gate_callee (f := 24) rfl ?_); refine goesL_ (some 92) rfl rfl Try.func24 (by kernel_rfl) rfl #[v10, .int .i64 t1] rfl wT ?_; (with_reducible refine (laws_markByteS.calls k1 (fun k_ => some k_ = v10.ownBlock) v10 (rd_T29 x0_1 x5_1).f10 t1 u1 u2 w0 _ ?side1 ?side2 A4.out).mono ?_); (case side1 => exact BB10.out); (case side2 => exact Kd.R_tight rfl GX.out); rintro e s11 ⟨rfl, hy, hb, hkp⟩; refine ⟨_, rfl, ?_⟩; have HH11 : Aside0 (Kd.H kP 29 s11 w0.heap.size P0_ (.slice (some ⟨g, 0, none⟩) x0_1.length cap) x0_1 x5_1 oki [.int .i64 x1_1, .int .i64 (wrap64 (x1_1 + 1)), .bool ((Int.tmod (wrap64 ((wrap64 (x1_1 + 1)) + 1)) 3) == 0), .bool ((Int.tmod (wrap64 ((wrap64 ((wrap64 (x1_1 + 1)) + 1)) + 1)) 3) == 0), .int .i64 (wrap64 ((wrap64 ((wrap64 ((wrap64 (x1_1 + 1)) + 1)) + 1)) + 1)), .int .i64 (wrap64 ((wrap64 ((wrap64 ((wrap64 ((wrap64 (x1_1 + 1)) + 1)) + 1)) + 1)) + 1)), .int .i64 (wrap64 ((wrap64 ((wrap64 ((wrap64 ((wrap64 ((wrap64 (x1_1 + 1)) + 1)) + 1)) + 1)) + 1)) + 1)), .int .i64 (wrap64 ((wrap64 ((wrap64 ((wrap64 ((wrap64 ((wrap64 ((wrap64 (x1_1 + 1)) + 1)) + 1)) + 1)) + 1)) + 1)) + 1)), .int .i64 (wrap64 ((wrap64 ((wrap64 ((wrap64 ((wrap64 ((wrap64 ((wrap64 ((wrap64 (x1_1 + 1)) + 1)) + 1)) + 1)) + 1)) + 1)) + 1)) + 1)), v9, v10]) := ⟨Kd.H_step HH10.out (fun k_ _ hn_ hlt_ => hkp.2 k_ hlt_ (fun hp_ => hn_ (GX.out.1 k_ hp_.symm)))⟩; have KK11 := Aside0.mk (Kept.then_ KK10.out hkp (fun k_ h_ => Or.inl (OK.out k_ (GX.out.1 k_ h_.symm)).1)); have BB11 := Aside0.mk hb; have GZ : Aside0 (Kd.R (Kd.int .u8) 5 s11 w0.heap.size oki v9 t2) := ⟨Kd.R_mono (Kd.R_kept (Kd.R_tight rfl GY.out) hkp (fun k_ h_ h2_ => AP.out k_ h_.symm h2_.symm)) (fun k_ h_ => GY.out.1 k_ h_.symm)⟩; have GU : Aside0 (Kd.R (Kd.int .u8) 5 s11 w0.heap.size oki v10 u2) := ⟨Kd.R_mono (Kd.R_tight rfl hy) (fun k_ h_ => GX.out.1 k_ h_.symm)⟩; have HS : Aside0 (Kd.S kP 29 s11 w0.heap.size P0_ (.slice (some ⟨g, 0, none⟩) x0_1.length cap) (x0_1.set x5_1.toNat (⟨x1_1, (wrap64 (x1_1 + 1)), ((Int.tmod (wrap64 ((wrap64 (x1_1 + 1)) + 1)) 3) == 0), ((Int.tmod (wrap64 ((wrap64 ((wrap64 (x1_1 + 1)) + 1)) + 1)) 3) == 0), (wrap64 ((wrap64 ((wrap64 ((wrap64 (x1_1 + 1)) + 1)) + 1)) + 1)), (wrap64 ((wrap64 ((wrap64 ((wrap64 ((wrap64 (x1_1 + 1)) + 1)) + 1)) + 1)) + 1)), (wrap64 ((wrap64 ((wrap64 ((wrap64 ((wrap64 ((wrap64 (x1_1 + 1)) + 1)) + 1)) + 1)) + 1)) + 1)), (wrap64 ((wrap64 ((wrap64 ((wrap64 ((wrap64 ((wrap64 ((wrap64 (x1_1 + 1)) + 1)) + 1)) + 1)) + 1)) + 1)) + 1)), (wrap64 ((wrap64 ((wrap64 ((wrap64 ((wrap64 ((wrap64 ((wrap64 ((wrap64 (x1_1 + 1)) + 1)) + 1)) + 1)) + 1)) + 1)) + 1)) + 1)), t2, u2⟩ : S29))) := ⟨Kd.H_back HH11.out ⟨k29_mkM _ _ _ (⟨x1_1, (wrap64 (x1_1 + 1)), ((Int.tmod (wrap64 ((wrap64 (x1_1 + 1)) + 1)) 3) == 0), ((Int.tmod (wrap64 ((wrap64 ((wrap64 (x1_1 + 1)) + 1)) + 1)) 3) == 0), (wrap64 ((wrap64 ((wrap64 ((wrap64 (x1_1 + 1)) + 1)) + 1)) + 1)), (wrap64 ((wrap64 ((wrap64 ((wrap64 ((wrap64 (x1_1 + 1)) + 1)) + 1)) + 1)) + 1)), (wrap64 ((wrap64 ((wrap64 ((wrap64 ((wrap64 ((wrap64 (x1_1 + 1)) + 1)) + 1)) + 1)) + 1)) + 1)), (wrap64 ((wrap64 ((wrap64 ((wrap64 ((wrap64 ((wrap64 ((wrap64 (x1_1 + 1)) + 1)) + 1)) + 1)) + 1)) + 1)) + 1)), (wrap64 ((wrap64 ((wrap64 ((wrap64 ((wrap64 ((wrap64 ((wrap64 ((wrap64 (x1_1 + 1)) + 1)) + 1)) + 1)) + 1)) + 1)) + 1)) + 1)), t2, u2⟩ : S29) GZ.out GU.out, AP.out⟩ (fun _ h_ => h_)⟩; clear hy hb hkp))
          go_roundg k1
          case measure => have := HK1.out; omega
          case rel => exact ⟨_, u1, (wrap64 (x5_1 + 1)), (by first | rfl | (simp; done) | (simp [*]; done)), (by first | rfl | (simp; done) | (simp [*]; done)), H', ⟨by have := HK1.out; omega⟩, ⟨Sh HS⟩, ⟨by repeat (first | (with_reducible first | exact KK11.out | apply Kept.alloc | apply Kept.drewN | apply Kept.drew) | exact KK11.out)⟩, ⟨by repeat (first | (with_reducible first | exact BB11.out | apply below_alloc | apply pw_below_drewN | apply below_drew1) | exact BB11.out)⟩⟩
        · rw [if_neg c1002] at H
          exact absurd H (by simp)
      · rw [if_neg c1001] at H
        have c1001b0 : decide (x5_1 < (x0_1.length : Int)) = false := decide_eq_false c1001
        clear c1001
        simp only [Option.some.injEq, Prod.mk.injEq] at H
        obtain ⟨rfl, rfl⟩ := H
        obtain ⟨Ao2001, co2001, eo2001⟩ := Kd.S_slice HO_0.out
        subst eo2001
        go_wp2
        go_ret
        exact ⟨by first | rfl | (simp; done) | (simp [*]; done), Sh HO_0, wB, by repeat (first | (with_reducible first | exact HK.out | apply Kept.alloc | apply Kept.drewN | apply Kept.drew) | exact HK.out)⟩



/-! ### laws_heldByteS: function 25 -/
def laws_heldByteS.l0 : Nat → List Int → Int → Int → Option (Int)
  | 0, _, _, _ => none
  | k + 1, x0, x1, x5 => if x5 < (x0.length : Int) then (if 0 ≤ x5 then (if (rd x0 x5) = ((x1) % 256) then (laws_heldByteS.l0 k x0 (wrap64 (x1 + 1)) (wrap64 (x5 + 1))) else (some (-1))) else (none)) else (some x1)
def laws_heldByteS.f (k : Nat) (l0 : List Int) (a1 : Int) : Option (Int) := laws_heldByteS.l0 k l0 a1 0
theorem laws_heldByteS.mono_l : ∀ k, (∀ y0 y1 y2, LeO (laws_heldByteS.l0 k y0 y1 y2) (laws_heldByteS.l0 (k + 1) y0 y1 y2))
  | 0 => fun _ _ _ r h => by simp [laws_heldByteS.l0] at h
  | k + 1 => by
    have ih0 := laws_heldByteS.mono_l k
    · intro y0 y1 y2
      unfold laws_heldByteS.l0
      repeat' first
      | (with_reducible exact ih0 _ _ _)
      | (with_reducible exact LeO.refl _)
      | (with_reducible exact LeO.none _)
      | (with_reducible refine LeO.ite ?_ ?_)
      | (with_reducible refine LeO.bind ?_ (fun _ => ?_))
      | exact ih0 _ _ _
      | exact LeO.none _
      | refine LeO.ite ?_ ?_
      | refine LeO.bind ?_ (fun _ => ?_)
theorem laws_heldByteS.mono : ∀ a0 a1 k, LeO (laws_heldByteS.f k a0 a1) (laws_heldByteS.f (k + 1) a0 a1) := by
  intro a0 a1 k
  have ih0 := laws_heldByteS.mono_l k
  unfold laws_heldByteS.f
  repeat' first
      | (with_reducible exact ih0 _ _ _)
      | (with_reducible exact LeO.refl _)
      | (with_reducible exact LeO.none _)
      | (with_reducible refine LeO.ite ?_ ?_)
      | (with_reducible refine LeO.bind ?_ (fun _ => ?_))
      | exact ih0 _ _ _
      | exact LeO.none _
      | refine LeO.ite ?_ ?_
      | refine LeO.bind ?_ (fun _ => ?_)
set_option maxHeartbeats 60000000 in
set_option maxRecDepth 100000 in
theorem laws_heldByteS.calls (k : Nat) (A0 : Option Addr) (c0 : Nat) (l0 : List Int) (a1 : Int) (r : Int) (w : World) (hr0 : Kd.C (Kd.int .u8) w A0 l0.length l0) (hc0 : l0.length ≤ c0) (h : laws_heldByteS.f k l0 a1 = some r) :
    Calls Try.prog 25 #[.slice A0 l0.length c0, .int .i64 a1] w fun e w' => e = .returned (.int .i64 r) ∧ Drawn0 w w' := by
  have HR0 := Aside0.mk hr0
  have HC0 := Aside0.mk hc0
  clear hr0 hc0
  have H : (laws_heldByteS.l0 k l0 a1 0) = some r := h
  clear h
  have H' := Aside0.mk H
  clear H
  go_enter Try.func25, Try.ntmps25
  go_wp2
  go_loopg [1, 5] k (fun kq v1 v5 w' => ∃ (x1_1 : Int) (x5_1 : Int), v1 = .int .i64 x1_1 ∧ v5 = .int .i64 x5_1 ∧ Aside0 (laws_heldByteS.l0 kq l0 x1_1 x5_1 = some r) ∧ Aside0 (kq ≤ k) ∧ Drawn0 w w')
  case atStart => exact ⟨(a1), (0), (by first | rfl | (simp; done) | (simp [*]; done)), (by first | rfl | (simp; done) | (simp [*]; done)), H', ⟨Nat.le_refl _⟩, by repeat (first | exact Drawn0.refl _ | apply Drawn0.step)⟩
  case round =>
    clear H'
    obtain ⟨x1_1, x5_1, rfl, rfl, HA, HK1, ⟨m1, rfl⟩⟩ := hrel
    cases gk with
    | zero => exact absurd HA.out (by simp [laws_heldByteS.l0])
    | succ k1 =>
      have H := HA.out
      clear HA
      simp only [laws_heldByteS.l0] at H
      by_cases c1001 : x5_1 < (l0.length : Int)
      · rw [if_pos c1001] at H
        have c1001b0 : decide (x5_1 < (l0.length : Int)) = true := decide_eq_true c1001
        clear c1001
        by_cases c1002 : 0 ≤ x5_1
        · rw [if_pos c1002] at H
          have c1002b0 : decide (0 ≤ x5_1) = true := decide_eq_true c1002
          clear c1002
          by_cases c1003 : (rd l0 x5_1) = ((x1_1) % 256)
          · rw [if_pos c1003] at H
            have c1003b0 : ((rd l0 x5_1) == ((x1_1) % 256)) = true := beq_iff_eq.mpr c1003
            have c1003b1 : ((rd l0 x5_1) != ((x1_1) % 256)) = false := bne_eq_false_iff_eq.mpr c1003
            clear c1003
            have H' := Aside0.mk H
            clear H
            have p306 : 0 ≤ (x5_1 : Int) := of_decide_eq_true (by first | (with_reducible assumption) | assumption)
            have q306 : x5_1 < (l0.length : Int) := of_decide_eq_true (by first | (with_reducible assumption) | assumption)
            obtain ⟨ad306, e306, hx306_0⟩ := Kd.at_int HR0.out x5_1 p306 q306
            cases e306
            replace p306 := eq_true p306
            replace q306 := eq_true q306
            go_wp2
            go_roundg k1
            case measure => have := HK1.out; omega
            case rel => exact ⟨(wrap64 (x1_1 + 1)), (wrap64 (x5_1 + 1)), (by first | rfl | (simp; done) | (simp [*]; done)), (by first | rfl | (simp; done) | (simp [*]; done)), H', ⟨by have := HK1.out; omega⟩, by repeat (first | exact Drawn0.refl _ | apply Drawn0.step)⟩
          · rw [if_neg c1003] at H
            have c1003b0 : ((rd l0 x5_1) == ((x1_1) % 256)) = false := beq_eq_false_iff_ne.mpr c1003
            have c1003b1 : ((rd l0 x5_1) != ((x1_1) % 256)) = true := bne_iff_ne.mpr c1003
            obtain rfl := Option.some.inj H
            have p306 : 0 ≤ (x5_1 : Int) := of_decide_eq_true (by first | (with_reducible assumption) | assumption)
            have q306 : x5_1 < (l0.length : Int) := of_decide_eq_true (by first | (with_reducible assumption) | assumption)
            obtain ⟨ad306, e306, hx306_0⟩ := Kd.at_int HR0.out x5_1 p306 q306
            cases e306
            replace p306 := eq_true p306
            replace q306 := eq_true q306
            go_wp2
            go_ret
            exact ⟨by first | rfl | (simp; done) | (simp [*]; done), by repeat (first | exact Drawn0.refl _ | apply Drawn0.step)⟩
        · rw [if_neg c1002] at H
          exact absurd H (by simp)
      · rw [if_neg c1001] at H
        have c1001b0 : decide (x5_1 < (l0.length : Int)) = false := decide_eq_false c1001
        clear c1001
        obtain rfl := Option.some.inj H
        go_wp2
        go_ret
        exact ⟨by first | rfl | (simp; done) | (simp [*]; done), by repeat (first | exact Drawn0.refl _ | apply Drawn0.step)⟩

end Go.Proofs.Ytcapkpbjppenpaa.PFnExactFragment
