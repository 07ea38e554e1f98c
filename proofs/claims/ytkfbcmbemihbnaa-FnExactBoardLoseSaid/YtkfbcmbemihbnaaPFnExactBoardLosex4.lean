-- Written for this claim by a program of this session (wip/mkprint.py: the print, turned at a few places). Not trusted: Lean checks it.
import Derived.Test.YtkfbcmbemihbnaaPFnExactBoardLosex0
import Derived.Test.YtkfbcmbemihbnaaPFnExactBoardLosex3
namespace Go.Proofs.Ytkfbcmbemihbnaa.PFnExactBoardLose
open Go.RowKit Go.Proofs.YtkfbcmbemihbnaaW.PrintWords Go.Proofs.YtkfbcmbemihbnaaW.PrintLast Go.Proofs.YtkfbcmbemihbnaaW.PrintMore
attribute [local go_sem] max2_int min2_int max_two min_two max_three min_three max_four min_four   -- for this text's walks alone
set_option linter.unusedVariables false
set_option linter.unusedSimpArgs false

/-! ### spec_BoardLose: function 47 -/
def spec_BoardLose.l0 : Nat → Int → Int → Int → Int → List (S85) → Option (Int × Int × (List (S85)) × Int × Int)
  | 0, _, _, _, _, _ => none
  | k + 1, x5, x6, x164000, x164001, x164002 => if x6 < (x164002.length : Int) then (if 0 ≤ x6 then (if ((rd_T85 x164002 x6).f3) = 1 then (if ((rd_T85 x164002 x6).f4 = true) then (spec_BoardLose.l0 k x5 (wrap64 (x6 + 1)) x164000 x164001 x164002) else (if ((rd_T85 x164002 x6).f5 = true) then (spec_BoardLose.l0 k x5 (wrap64 (x6 + 1)) x164000 x164001 x164002) else ((spec_l15Behind.f k x164000 x164001 x164002 x6).bind fun t173 => (if t173 ≥ 3 then (spec_BoardLose.l0 k (wrap64 ((wrap64 (x5 + ((rd_T85 x164002 x6).f1))) - ((rd_T85 x164002 x6).f0))) (wrap64 (x6 + 1)) x164000 x164001 (x164002.set (x6 : Int).toNat (⟨(rd_T85 x164002 x6).f0, (rd_T85 x164002 x6).f1, (rd_T85 x164002 x6).f2, (rd_T85 x164002 x6).f3, (rd_T85 x164002 x6).f4, true⟩ : S85))) else (spec_BoardLose.l0 k x5 (wrap64 (x6 + 1)) x164000 x164001 x164002))))) else (spec_BoardLose.l0 k x5 (wrap64 (x6 + 1)) x164000 x164001 x164002)) else (none)) else (some (x164000, x164001, x164002, x5, 0))
def spec_BoardLose.f (k : Nat) (a0_0 : Int) (a0_1 : Int) (l0_2 : List (S85)) : Option (Int × Int × (List (S85)) × Int × Int) := (spec_l15OK.f k a0_0 a0_1 l0_2).bind fun t165 => (if t165 = true then ((spec_l15Copy.f a0_0 a0_1 l0_2).bind fun bt166 => (spec_BoardLose.l0 k 0 0 bt166.1 bt166.2.1 bt166.2.2)) else (some (0, 0, ([] : List (S85)), 0, 1)))
theorem spec_BoardLose.mono_l : ∀ k, (∀ y0 y1 y2 y3 y4, LeO (spec_BoardLose.l0 k y0 y1 y2 y3 y4) (spec_BoardLose.l0 (k + 1) y0 y1 y2 y3 y4))
  | 0 => fun _ _ _ _ _ r h => by simp [spec_BoardLose.l0] at h
  | k + 1 => by
    have ih0 := spec_BoardLose.mono_l k
    · intro y0 y1 y2 y3 y4
      unfold spec_BoardLose.l0
      repeat' first
      | (with_reducible exact ih0 _ _ _ _ _)
      | (with_reducible exact spec_l15Behind.mono _ _ _ _ _)
      | (with_reducible exact spec_l15OK.mono _ _ _ _)
      | (with_reducible exact LeO.refl _)
      | (with_reducible exact LeO.none _)
      | (with_reducible refine LeO.ite ?_ ?_)
      | (with_reducible refine LeO.bind ?_ (fun _ => ?_))
      | exact ih0 _ _ _ _ _
      | exact spec_l15Behind.mono _ _ _ _ _
      | exact spec_l15OK.mono _ _ _ _
      | exact LeO.none _
      | refine LeO.ite ?_ ?_
      | refine LeO.bind ?_ (fun _ => ?_)
theorem spec_BoardLose.mono : ∀ a0 a1 a2 k, LeO (spec_BoardLose.f k a0 a1 a2) (spec_BoardLose.f (k + 1) a0 a1 a2) := by
 intro a0 a1 a2 k
 have ih0 := spec_BoardLose.mono_l k
 unfold spec_BoardLose.f
 repeat' first
     | (with_reducible exact ih0 _ _ _ _ _)
     | (with_reducible exact spec_l15Behind.mono _ _ _ _ _)
     | (with_reducible exact spec_l15OK.mono _ _ _ _)
     | (with_reducible exact LeO.refl _)
     | (with_reducible exact LeO.none _)
     | (with_reducible refine LeO.ite ?_ ?_)
     | (with_reducible refine LeO.bind ?_ (fun _ => ?_))
     | exact ih0 _ _ _ _ _
     | exact spec_l15Behind.mono _ _ _ _ _
     | exact spec_l15OK.mono _ _ _ _
     | exact LeO.none _
     | refine LeO.ite ?_ ?_
     | refine LeO.bind ?_ (fun _ => ?_)
set_option maxHeartbeats 60000000 in
set_option maxRecDepth 100000 in
theorem spec_BoardLose.calls (k : Nat) (a0_0 : Int) (a0_1 : Int) (A0_2 : Option Addr) (c0_2 : Nat) (l0_2 : List (S85)) (r1 : Int) (r2 : Int) (r3 : List (S85)) (r4 : Int) (r5 : Int) (w : World) (hr0_2 : Kd.C k85 w A0_2 l0_2.length l0_2) (hc0_2 : l0_2.length ≤ c0_2) (h : spec_BoardLose.f k a0_0 a0_1 l0_2 = some (r1, r2, r3, r4, r5)) :
 Calls Try.prog 47 #[.agg #[.int .i64 a0_0, .int .i64 a0_1, .slice A0_2 l0_2.length c0_2]] w fun e w' => ∃ v2_ : Value, e = .returned (.tuple #[.agg #[.int .i64 r1, .int .i64 r2, v2_], .int .i64 r4, .int .i64 r5]) ∧ Kd.R k85 85 w' w.heap.size (fun _ => True) v2_ r3 ∧ Below w.heap.size w w' := by
 have hu63 := Try.underlying63
 have hu85 := Try.underlying85
 have HR0_2 := Aside0.mk hr0_2
 have HC0_2 := Aside0.mk hc0_2
 clear hr0_2 hc0_2
 have HB := Aside0.mk (Below.refl w.heap.size w)
 have H : ((spec_l15OK.f k a0_0 a0_1 l0_2).bind fun t165 => (if t165 = true then ((spec_l15Copy.f a0_0 a0_1 l0_2).bind fun bt166 => (spec_BoardLose.l0 k 0 0 bt166.1 bt166.2.1 bt166.2.2)) else (some (0, 0, ([] : List (S85)), 0, 1)))) = some (r1, r2, r3, r4, r5) := h
 clear h
 replace H := Option.bind_eq_some_iff.mp H
 obtain ⟨t165, A20, H⟩ := H
 replace H : (if t165 = true then ((spec_l15Copy.f a0_0 a0_1 l0_2).bind fun bt166 => (spec_BoardLose.l0 k 0 0 bt166.1 bt166.2.1 bt166.2.2)) else (some (0, 0, ([] : List (S85)), 0, 1))) = some (r1, r2, r3, r4, r5) := H
 have A2 := Aside0.mk A20
 clear A20
 by_cases c3 : t165 = true
 {
 subst c3
 have H1 : ((spec_l15Copy.f a0_0 a0_1 l0_2).bind fun bt166 => (spec_BoardLose.l0 k 0 0 bt166.1 bt166.2.1 bt166.2.2)) = some (r1, r2, r3, r4, r5) := by rw [if_pos rfl] at H; exact H
 clear H
 have H := H1
 clear H1
 replace H := Option.bind_eq_some_iff.mp H
 obtain ⟨⟨t166, t167, t168⟩, A40, H⟩ := H
 replace H : (spec_BoardLose.l0 k 0 0 t166 t167 t168) = some (r1, r2, r3, r4, r5) := H
 have A4 := Aside0.mk A40
 clear A40
 have H' := Aside0.mk H
 clear H
 go_enter Try.func47, Try.ntmps47
 go_wp2_with (first | ((with_reducible refine gate_dst (N := 1) rfl ?_); refine box_event ?hg (N := 1) ?hd (cs := #[.int .i64 a0_0, .int .i64 a0_1, .slice A0_2 l0_2.length c0_2]) (t := 63) ?hr ?_; (case hd => rfl); (case hg => rfl); (case hr => first | (go_simp; done) | (go_simp; rfl)); intro gb163 hg w1001 hbox hb; have n0_ := Aside0.mk (below_step wB hb); have n1_ := Aside0.mk (hbox); have n2_ := Aside0.mk ((by rw [hg]; exact (below_size wB) : w.heap.size ≤ gb163)); have n3_ := Aside0.mk ((by rw [hg]; exact (below_size wB) : w.heap.size ≤ gb163)); clear HB; have HB := n0_; have BK163 := n1_; have GW163 := n2_; have GE163 := n3_; clear n0_ n1_ n2_ n3_; clear hb hbox hg) | ((with_reducible refine gate_dst (N := 2) rfl ?_); refine box_event ?hg (N := 2) ?hd (cs := #[.int .i64 0, .int .i64 0, .slice none 0 0]) (t := 63) ?hr ?_; (case hd => rfl); (case hg => rfl); (case hr => first | (go_simp; done) | (go_simp; rfl)); intro gb164 hg w1002 hbox hb; have n0_ := Aside0.mk (blk_below (Bh BK163) hb); have n1_ := Aside0.mk (below_step wB hb); have n2_ := Aside0.mk (hbox); have n3_ := Aside0.mk ((by rw [hg]; exact (below_size wB) : w.heap.size ≤ gb164)); have n4_ := Aside0.mk ((by rw [hg]; exact (below_size wB) : w.heap.size ≤ gb164)); have n5_ := Aside0.mk ((by rw [hg]; exact Nat.ne_of_lt (blk_lt (Bh BK163)) : gb163 ≠ gb164)); have n6_ := Aside0.mk ((by rw [hg]; exact Nat.ne_of_gt (blk_lt (Bh BK163)) : gb164 ≠ gb163)); clear BK163; clear HB; have BK163 := n0_; have HB := n1_; have BK164 := n2_; have GW164 := n3_; have GE164 := n4_; have NB163_164 := n5_; have NB164_163 := n6_; clear n0_ n1_ n2_ n3_ n4_ n5_ n6_; clear hb hbox hg; have hnb1003 := NB163_164.out; have hnc1003 := NB164_163.out; obtain ⟨⟨hcz1004_0, hcz1004_1, hcz1004_2⟩, hfz1004_0, hfz1004_1, hfz1004_2⟩ := cells3 BK163.out) | ((with_reducible refine gate_callee (f := 83) rfl ?_); refine goesL_ (some 9) rfl rfl Try.func83 (by kernel_rfl) rfl #[.agg #[.int .i64 a0_0, .int .i64 a0_1, .slice A0_2 l0_2.length c0_2]] rfl wT ?_; (with_reducible refine (spec_l15OK.calls k a0_0 a0_1 _ _ l0_2 true _ ?side1 ?side2 A2.out).mono ?_); (case side1 => exact Kd.C_below HR0_2.out wB); (case side2 => exact HC0_2.out); rintro e w1005 ⟨rfl, hb⟩; refine ⟨_, rfl, ?_⟩; have n0_ := Aside0.mk (blk_below (Bh BK163) hb); have n1_ := Aside0.mk (blk_below (Bh BK164) hb); have n2_ := Aside0.mk (below_step wB hb); clear BK163; clear BK164; clear HB; have BK163 := n0_; have BK164 := n1_; have HB := n2_; clear n0_ n1_ n2_; (try clear hb); (try clear hb2); (try clear hk); (try clear hi); obtain ⟨⟨hcz1006_0, hcz1006_1, hcz1006_2⟩, hfz1006_0, hfz1006_1, hfz1006_2⟩ := cells3 BK163.out) | ((with_reducible refine gate_callee (f := 84) rfl ?_); refine goesL_ (some 13) rfl rfl Try.func84 (by kernel_rfl) rfl #[.agg #[.int .i64 a0_0, .int .i64 a0_1, .slice A0_2 l0_2.length c0_2]] rfl wT ?_; (with_reducible refine (spec_l15Copy.calls a0_0 a0_1 _ _ l0_2 t166 t167 t168 _ ?side1 ?side2 A4.out).mono ?_); (case side1 => exact Kd.C_below HR0_2.out wB); (case side2 => exact HC0_2.out); rintro e w1007 ⟨v169, rfl, ho0, hb⟩; refine ⟨_, rfl, ?_⟩; have n0_ := Aside0.mk (Kd.R_lower ho0 (below_size wB)); have n1_ := Aside0.mk (blk_below (Bh BK163) hb); have n2_ := Aside0.mk (blk_below (Bh BK164) hb); have n3_ := Aside0.mk (below_step wB hb); clear BK163; clear BK164; clear HB; have HO170 := n0_; have BK163 := n1_; have BK164 := n2_; have HB := n3_; clear n0_ n1_ n2_ n3_; (try clear hb); (try clear hb2); (try clear hk); (try clear hi); (try clear ho0); obtain ⟨⟨hcz1008_0, hcz1008_1, hcz1008_2⟩, hfz1008_0, hfz1008_1, hfz1008_2⟩ := cells3 BK163.out; obtain ⟨Ao1009, co1009, eo1009⟩ := Kd.R_slice HO170.out; subst eo1009) | ((with_reducible refine gate_store (t := 63) (p := 1) rfl ?_); refine store_event (t := 63) (p := 1) (v := ?_) (w1 := (((w1007.setCell ⟨gb163, 0, none⟩ (.int .i64 t166)).setCell ⟨gb163, 1, none⟩ (.int .i64 t167)).setCell ⟨gb163, 2, none⟩ (.slice Ao1009 t168.length co1009))) ?hg ?ho ?hn ?hr ?_; (case ho => rfl); (case hg => rfl); (case hn => rfl); (case hr => first | (go_simp; done) | (go_simp; rfl)); intro w1010 hw; have n0_ : Aside0 (Kd.R k85 85 w1010 w.heap.size (fun _ => True) (.slice Ao1009 t168.length co1009) t168) := ⟨(by rw [hw]; exact (by (with_reducible repeat (first | apply Kd.R_alloc | apply Kd.R_drewN | apply Kd.R_drew)); exact Kd.R_mono (Kd.R_far (p := ⟨gb163, 2, none⟩) (Kd.R_far (p := ⟨gb163, 1, none⟩) (Kd.R_far (p := ⟨gb163, 0, none⟩) (Kd.R_types HO170.out BK163.out (by decide)) (fun _ hk => hk.2) (.int .i64 t166)) (fun _ hk => hk.2) (.int .i64 t167)) (fun _ hk => hk.2) (.slice Ao1009 t168.length co1009)) (fun _ hk => trivial)))⟩; have n1_ : Aside0 (w1010.heap[gb163]? = some (.cells #[.int .i64 t166, .int .i64 t167, .slice Ao1009 t168.length co1009] 63 (0, 0))) := ⟨(by rw [hw]; exact (by (with_reducible repeat (first | refine blk_drewN ?_ _ | refine blk_drew ?_ | refine blk_alloc ?_ _)); refine blk_put (cs := #[.int .i64 t166, .int .i64 t167, .slice A0_2 l0_2.length c0_2]) ?_ 2 _ rfl; (with_reducible repeat (first | refine blk_drewN ?_ _ | refine blk_drew ?_ | refine blk_alloc ?_ _)); refine blk_put (cs := #[.int .i64 t166, .int .i64 a0_1, .slice A0_2 l0_2.length c0_2]) ?_ 1 _ rfl; (with_reducible repeat (first | refine blk_drewN ?_ _ | refine blk_drew ?_ | refine blk_alloc ?_ _)); refine blk_put (cs := #[.int .i64 a0_0, .int .i64 a0_1, .slice A0_2 l0_2.length c0_2]) ?_ 0 _ rfl; (with_reducible repeat (first | refine blk_drewN ?_ _ | refine blk_drew ?_ | refine blk_alloc ?_ _)); exact BK163.out))⟩; have n2_ : Aside0 (w1010.heap[gb164]? = some (.cells #[.int .i64 0, .int .i64 0, .slice none 0 0] 63 (0, 0))) := ⟨(by rw [hw]; exact (by (with_reducible repeat (first | refine blk_drewN ?_ _ | refine blk_drew ?_ | refine blk_alloc ?_ _)); refine blk_far ?_ NB164_163.out _; (with_reducible repeat (first | refine blk_drewN ?_ _ | refine blk_drew ?_ | refine blk_alloc ?_ _)); refine blk_far ?_ NB164_163.out _; (with_reducible repeat (first | refine blk_drewN ?_ _ | refine blk_drew ?_ | refine blk_alloc ?_ _)); refine blk_far ?_ NB164_163.out _; (with_reducible repeat (first | refine blk_drewN ?_ _ | refine blk_drew ?_ | refine blk_alloc ?_ _)); exact BK164.out))⟩; have n3_ : Aside0 (Below w.heap.size w w1010) := ⟨(by rw [hw]; exact wB)⟩; clear hw; clear HO170; clear BK163; clear BK164; clear HB; have HO170 := n0_; have BK163 := n1_; have BK164 := n2_; have HB := n3_; clear n0_ n1_ n2_ n3_))
 go_loopg [5, 6] k (fun kq v5 v6 w' => ∃ (x5_1 : Int) (x6_1 : Int) (x164002_1 : List (S85)) (u164002 : Value), v5 = .int .i64 x5_1 ∧ v6 = .int .i64 x6_1 ∧ Aside0 (spec_BoardLose.l0 kq x5_1 x6_1 t166 t167 x164002_1 = some (r1, r2, r3, r4, r5)) ∧ Aside0 (kq ≤ k) ∧ Aside0 (Kd.R k85 85 w' w.heap.size (fun _ => True) u164002 x164002_1) ∧ Aside0 (w'.heap[gb163]? = some (.cells #[.int .i64 t166, .int .i64 t167, u164002] 63 (0, 0))) ∧ Aside0 (w'.heap[gb164]? = some (.cells #[.int .i64 0, .int .i64 0, (.slice none 0 0)] 63 (0, 0))) ∧ Aside0 (Below w.heap.size w w'))
 case atStart => exact ⟨(0), (0), (t168), (.slice Ao1009 t168.length co1009), (by first | rfl | (simp; done) | (simp [*]; done)), (by first | rfl | (simp; done) | (simp [*]; done)), H', ⟨Nat.le_refl _⟩, ⟨Rh HO170⟩, ⟨Bh BK163⟩, ⟨Bh BK164⟩, ⟨wB⟩⟩
 case round => (
 clear H'
 try clear c0
 try clear c3
 try clear hcz1004_0 hcz1004_1 hcz1004_2 hfz1004_0 hfz1004_1 hfz1004_2
 try clear hcz1006_0 hcz1006_1 hcz1006_2 hfz1006_0 hfz1006_1 hfz1006_2
 try clear hcz1008_0 hcz1008_1 hcz1008_2 hfz1008_0 hfz1008_1 hfz1008_2
 obtain ⟨x5_1, x6_1, x164002_1, u164002, rfl, rfl, HA, HK1, HO_164002, BK163, BK164, HB⟩ := hrel
 cases gk with
 | zero => exact absurd HA.out (by simp [spec_BoardLose.l0])
 | succ k1 => {
 have H := HA.out
 clear HA
 simp only [spec_BoardLose.l0] at H
 by_cases c1011 : x6_1 < (x164002_1.length : Int)
 rw [if_pos c1011] at H
 have c1011b0 : decide (x6_1 < (x164002_1.length : Int)) = true := decide_eq_true c1011
 clear c1011
 by_cases c1012 : 0 ≤ x6_1
 rw [if_pos c1012] at H
 have c1012b0 : decide (0 ≤ x6_1) = true := decide_eq_true c1012
 clear c1012
 by_cases c1013 : ((rd_T85 x164002_1 x6_1).f3) = 1
 rw [if_pos c1013] at H
 have c1013b0 : (((rd_T85 x164002_1 x6_1).f3) == 1) = true := beq_iff_eq.mpr c1013
 have c1013b1 : (((rd_T85 x164002_1 x6_1).f3) != 1) = false := bne_eq_false_iff_eq.mpr c1013
 clear c1013
 obtain ⟨bq1014, hbq1014⟩ : ∃ b_ : Bool, b_ = ((rd_T85 x164002_1 x6_1).f4) := ⟨_, rfl⟩
 replace H : (if (bq1014 = true) then (spec_BoardLose.l0 k1 x5_1 (wrap64 (x6_1 + 1)) t166 t167 x164002_1) else (if ((rd_T85 x164002_1 x6_1).f5 = true) then (spec_BoardLose.l0 k1 x5_1 (wrap64 (x6_1 + 1)) t166 t167 x164002_1) else ((spec_l15Behind.f k1 t166 t167 x164002_1 x6_1).bind fun t173 => (if t173 ≥ 3 then (spec_BoardLose.l0 k1 (wrap64 ((wrap64 (x5_1 + ((rd_T85 x164002_1 x6_1).f1))) - ((rd_T85 x164002_1 x6_1).f0))) (wrap64 (x6_1 + 1)) t166 t167 (x164002_1.set (x6_1 : Int).toNat (⟨(rd_T85 x164002_1 x6_1).f0, (rd_T85 x164002_1 x6_1).f1, (rd_T85 x164002_1 x6_1).f2, (rd_T85 x164002_1 x6_1).f3, bq1014, true⟩ : S85))) else (spec_BoardLose.l0 k1 x5_1 (wrap64 (x6_1 + 1)) t166 t167 x164002_1))))) = some (r1, r2, r3, r4, r5) := by rw [← hbq1014] at H; exact H
 have Nbq1014 := Aside0.mk hbq1014
 clear hbq1014
 by_cases c1015 : (bq1014 = true)
 subst c1015
 have H1 : (spec_BoardLose.l0 k1 x5_1 (wrap64 (x6_1 + 1)) t166 t167 x164002_1) = some (r1, r2, r3, r4, r5) := by rw [if_pos rfl] at H; exact H
 clear H
 have H := H1
 clear H1
 have H' := Aside0.mk H
 clear H
 rotate_left
 replace c1015 := Bool.eq_false_iff.mpr c1015
 subst c1015
 have H1 : (if ((rd_T85 x164002_1 x6_1).f5 = true) then (spec_BoardLose.l0 k1 x5_1 (wrap64 (x6_1 + 1)) t166 t167 x164002_1) else ((spec_l15Behind.f k1 t166 t167 x164002_1 x6_1).bind fun t173 => (if t173 ≥ 3 then (spec_BoardLose.l0 k1 (wrap64 ((wrap64 (x5_1 + ((rd_T85 x164002_1 x6_1).f1))) - ((rd_T85 x164002_1 x6_1).f0))) (wrap64 (x6_1 + 1)) t166 t167 (x164002_1.set (x6_1 : Int).toNat (⟨(rd_T85 x164002_1 x6_1).f0, (rd_T85 x164002_1 x6_1).f1, (rd_T85 x164002_1 x6_1).f2, (rd_T85 x164002_1 x6_1).f3, false, true⟩ : S85))) else (spec_BoardLose.l0 k1 x5_1 (wrap64 (x6_1 + 1)) t166 t167 x164002_1)))) = some (r1, r2, r3, r4, r5) := by rw [if_neg (show ¬ (false = true) by decide)] at H; exact H
 clear H
 have H := H1
 clear H1
 obtain ⟨bq1016, hbq1016⟩ : ∃ b_ : Bool, b_ = ((rd_T85 x164002_1 x6_1).f5) := ⟨_, rfl⟩
 replace H : (if (bq1016 = true) then (spec_BoardLose.l0 k1 x5_1 (wrap64 (x6_1 + 1)) t166 t167 x164002_1) else ((spec_l15Behind.f k1 t166 t167 x164002_1 x6_1).bind fun t173 => (if t173 ≥ 3 then (spec_BoardLose.l0 k1 (wrap64 ((wrap64 (x5_1 + ((rd_T85 x164002_1 x6_1).f1))) - ((rd_T85 x164002_1 x6_1).f0))) (wrap64 (x6_1 + 1)) t166 t167 (x164002_1.set (x6_1 : Int).toNat (⟨(rd_T85 x164002_1 x6_1).f0, (rd_T85 x164002_1 x6_1).f1, (rd_T85 x164002_1 x6_1).f2, (rd_T85 x164002_1 x6_1).f3, false, true⟩ : S85))) else (spec_BoardLose.l0 k1 x5_1 (wrap64 (x6_1 + 1)) t166 t167 x164002_1)))) = some (r1, r2, r3, r4, r5) := by rw [← hbq1016] at H; exact H
 have Nbq1016 := Aside0.mk hbq1016
 clear hbq1016
 by_cases c1017 : (bq1016 = true)
 subst c1017
 have H1 : (spec_BoardLose.l0 k1 x5_1 (wrap64 (x6_1 + 1)) t166 t167 x164002_1) = some (r1, r2, r3, r4, r5) := by rw [if_pos rfl] at H; exact H
 clear H
 have H := H1
 clear H1
 have H' := Aside0.mk H
 clear H
 have bq1_ : True := trivial
 rotate_left
 replace c1017 := Bool.eq_false_iff.mpr c1017
 subst c1017
 have H1 : ((spec_l15Behind.f k1 t166 t167 x164002_1 x6_1).bind fun t173 => (if t173 ≥ 3 then (spec_BoardLose.l0 k1 (wrap64 ((wrap64 (x5_1 + ((rd_T85 x164002_1 x6_1).f1))) - ((rd_T85 x164002_1 x6_1).f0))) (wrap64 (x6_1 + 1)) t166 t167 (x164002_1.set (x6_1 : Int).toNat (⟨(rd_T85 x164002_1 x6_1).f0, (rd_T85 x164002_1 x6_1).f1, (rd_T85 x164002_1 x6_1).f2, (rd_T85 x164002_1 x6_1).f3, false, true⟩ : S85))) else (spec_BoardLose.l0 k1 x5_1 (wrap64 (x6_1 + 1)) t166 t167 x164002_1))) = some (r1, r2, r3, r4, r5) := by rw [if_neg (show ¬ (false = true) by decide)] at H; exact H
 clear H
 have H := H1
 clear H1
 replace H := Option.bind_eq_some_iff.mp H
 obtain ⟨t173, A10180, H⟩ := H
 replace H : (if t173 ≥ 3 then (spec_BoardLose.l0 k1 (wrap64 ((wrap64 (x5_1 + ((rd_T85 x164002_1 x6_1).f1))) - ((rd_T85 x164002_1 x6_1).f0))) (wrap64 (x6_1 + 1)) t166 t167 (x164002_1.set (x6_1 : Int).toNat (⟨(rd_T85 x164002_1 x6_1).f0, (rd_T85 x164002_1 x6_1).f1, (rd_T85 x164002_1 x6_1).f2, (rd_T85 x164002_1 x6_1).f3, false, true⟩ : S85))) else (spec_BoardLose.l0 k1 x5_1 (wrap64 (x6_1 + 1)) t166 t167 x164002_1)) = some (r1, r2, r3, r4, r5) := H
 have A1018 := Aside0.mk A10180
 clear A10180
 by_cases c1019 : t173 ≥ 3
 rw [if_pos c1019] at H
 have c1019b0 : decide (3 ≤ t173) = true := decide_eq_true c1019
 clear c1019
 obtain ⟨y174, hy174⟩ : ∃ y_ : List (S85), y_ = (x164002_1.set (x6_1 : Int).toNat (⟨(rd_T85 x164002_1 x6_1).f0, (rd_T85 x164002_1 x6_1).f1, (rd_T85 x164002_1 x6_1).f2, (rd_T85 x164002_1 x6_1).f3, false, true⟩ : S85)) := ⟨_, rfl⟩
 replace H : (spec_BoardLose.l0 k1 (wrap64 ((wrap64 (x5_1 + ((rd_T85 x164002_1 x6_1).f1))) - ((rd_T85 x164002_1 x6_1).f0))) (wrap64 (x6_1 + 1)) t166 t167 y174) = some (r1, r2, r3, r4, r5) := by first | (rw [hy174]; with_reducible exact H) | (have H2_ := (Option.bind_some _ _).symm.trans H; rw [hy174]; with_reducible exact H2_) | (have H2_ := (Option.bind_some _ _).symm.trans H; with_reducible exact H2_) | with_reducible exact H | (rw [hy174]; exact H) | exact H
 have Ny174 := Aside0.mk hy174
 clear hy174
 have H' := Aside0.mk H
 clear H
 rotate_left
 rw [if_neg c1019] at H
 have c1019b0 : decide (3 ≤ t173) = false := decide_eq_false c1019
 clear c1019
 have H' := Aside0.mk H
 clear H
 rotate_left
 rw [if_neg c1013] at H
 have c1013b0 : (((rd_T85 x164002_1 x6_1).f3) == 1) = false := beq_eq_false_iff_ne.mpr c1013
 have c1013b1 : (((rd_T85 x164002_1 x6_1).f3) != 1) = true := bne_iff_ne.mpr c1013
 have H' := Aside0.mk H
 clear H
 rotate_left
 rw [if_neg c1012] at H
 exact absurd H (by simp)
 rw [if_neg c1011] at H
 have c1011b0 : decide (x6_1 < (x164002_1.length : Int)) = false := decide_eq_false c1011
 clear c1011
 simp only [Option.some.injEq, Prod.mk.injEq] at H
 obtain ⟨rfl, rfl, rfl, rfl, rfl⟩ := H
 rotate_left
 all_goals (
 have hnb2001 := NB163_164.out
 have hnc2001 := NB164_163.out
 obtain ⟨⟨hcz2002_0, hcz2002_1, hcz2002_2⟩, hfz2002_0, hfz2002_1, hfz2002_2⟩ := cells3 BK163.out
 obtain ⟨Ao2003, co2003, eo2003⟩ := Kd.R_slice HO_164002.out
 subst eo2003
 )
 iterate 5 (
 focus (
 have p171 : 0 ≤ (x6_1 : Int) := of_decide_eq_true (by first | (with_reducible assumption) | assumption)
 have q171 : x6_1 < (x164002_1.length : Int) := of_decide_eq_true (by first | (with_reducible assumption) | assumption)
 obtain ⟨ad171, e171, hx171_0, hx171_1, hx171_2, hx171_3, hx171_4, hx171_5⟩ := at_T85 (Kd.R_reads' HO_164002.out).2.2 x6_1 p171 q171
 )
 rotate_left
 )
 rotate_right 5
 iterate 4 (
 focus (
 (try rw [← Nbq1014.out] at hx171_4)
 )
 rotate_left
 )
 rotate_right 4
 {
 (try rw [← Nbq1014.out] at hx171_5)
 cases e171
 replace p171 := eq_true p171
 replace q171 := eq_true q171
 go_wp2_with (first | ((with_reducible refine gate_dst (N := 7) rfl ?_); refine box_event ?hg (N := 7) ?hd (cs := #[.int .i64 0, .int .i64 0, .int .i64 0, .int .i64 0, .bool false, .bool false]) (t := 85) ?hr ?_; (case hd => rfl); (case hg => rfl); (case hr => first | (go_simp; done) | (go_simp; rfl)); intro gb172 hg w2004 hbox hb; have n0_ := Aside0.mk (Kd.R_below (Kd.R_elderB (Rh HO_164002) gb172 (Nat.le_of_eq hg.symm)) hb); have n1_ := Aside0.mk (blk_below (Bh BK163) hb); have n2_ := Aside0.mk (blk_below (Bh BK164) hb); have n3_ := Aside0.mk (below_step wB hb); have n4_ := Aside0.mk (hbox); have n5_ := Aside0.mk ((by rw [hg]; exact (below_size wB) : w.heap.size ≤ gb172)); have n6_ := Aside0.mk ((by rw [hg]; exact (below_size wB) : w.heap.size ≤ gb172)); have n7_ := Aside0.mk ((by rw [hg]; exact Nat.ne_of_lt (blk_lt (Bh BK163)) : gb163 ≠ gb172)); have n8_ := Aside0.mk ((by rw [hg]; exact Nat.ne_of_gt (blk_lt (Bh BK163)) : gb172 ≠ gb163)); have n9_ := Aside0.mk ((by rw [hg]; exact Nat.ne_of_lt (blk_lt (Bh BK164)) : gb164 ≠ gb172)); have n10_ := Aside0.mk ((by rw [hg]; exact Nat.ne_of_gt (blk_lt (Bh BK164)) : gb172 ≠ gb164)); clear HO_164002; clear BK163; clear BK164; clear HB; have HO_164002 := n0_; have BK163 := n1_; have BK164 := n2_; have HB := n3_; have BK172 := n4_; have GW172 := n5_; have GE172 := n6_; have NB163_172 := n7_; have NB172_163 := n8_; have NB164_172 := n9_; have NB172_164 := n10_; clear n0_ n1_ n2_ n3_ n4_ n5_ n6_ n7_ n8_ n9_ n10_; clear hb hbox hg; have hnb2005 := NB172_163.out; have hnc2005 := NB163_172.out; have hnb2006 := NB172_164.out; have hnc2006 := NB164_172.out; obtain ⟨⟨hcz2007_0, hcz2007_1, hcz2007_2, hcz2007_3, hcz2007_4, hcz2007_5⟩, hfz2007_0, hfz2007_1, hfz2007_2, hfz2007_3, hfz2007_4, hfz2007_5⟩ := cells6 BK172.out) | ((with_reducible refine gate_store (t := 85) (p := 7) rfl ?_); refine store_event (t := 85) (p := 7) (v := ?_) (w1 := ((((((w2004.setCell ⟨gb172, 0, none⟩ (.int .i64 ((rd_T85 x164002_1 x6_1).f0))).setCell ⟨gb172, 1, none⟩ (.int .i64 ((rd_T85 x164002_1 x6_1).f1))).setCell ⟨gb172, 2, none⟩ (.int .i64 ((rd_T85 x164002_1 x6_1).f2))).setCell ⟨gb172, 3, none⟩ (.int .i64 ((rd_T85 x164002_1 x6_1).f3))).setCell ⟨gb172, 4, none⟩ (.bool true)).setCell ⟨gb172, 5, none⟩ (.bool ((rd_T85 x164002_1 x6_1).f5)))) ?hg ?ho ?hn ?hr ?_; (case ho => rfl); (case hg => rfl); (case hn => rfl); (case hr => first | (go_simp; done) | (go_simp; rfl)); intro w2008 hw; have n0_ : Aside0 (Kd.R k85 85 w2008 w.heap.size (fun k_ => k_ ≠ gb172) (.slice (some ad171) x164002_1.length co2003) x164002_1) := ⟨(by rw [hw]; exact (by (with_reducible repeat (first | apply Kd.R_alloc | apply Kd.R_drewN | apply Kd.R_drew)); exact Kd.R_mono (Kd.R_far (p := ⟨gb172, 5, none⟩) (Kd.R_far (p := ⟨gb172, 4, none⟩) (Kd.R_far (p := ⟨gb172, 3, none⟩) (Kd.R_far (p := ⟨gb172, 2, none⟩) (Kd.R_far (p := ⟨gb172, 1, none⟩) (Kd.R_far (p := ⟨gb172, 0, none⟩) (Kd.R_mono HO_164002.out (fun k_ hk => (⟨hk, hk.2⟩ : _ ∧ k_ ≠ gb172))) (fun _ hk => hk.2) (.int .i64 ((rd_T85 x164002_1 x6_1).f0))) (fun _ hk => hk.2) (.int .i64 ((rd_T85 x164002_1 x6_1).f1))) (fun _ hk => hk.2) (.int .i64 ((rd_T85 x164002_1 x6_1).f2))) (fun _ hk => hk.2) (.int .i64 ((rd_T85 x164002_1 x6_1).f3))) (fun _ hk => hk.2) (.bool true)) (fun _ hk => hk.2) (.bool ((rd_T85 x164002_1 x6_1).f5))) (fun _ hk => hk.1.2)))⟩; have n1_ : Aside0 (w2008.heap[gb163]? = some (.cells #[.int .i64 t166, .int .i64 t167, .slice (some ad171) x164002_1.length co2003] 63 (0, 0))) := ⟨(by rw [hw]; exact (by (with_reducible repeat (first | refine blk_drewN ?_ _ | refine blk_drew ?_ | refine blk_alloc ?_ _)); refine blk_far ?_ NB163_172.out _; (with_reducible repeat (first | refine blk_drewN ?_ _ | refine blk_drew ?_ | refine blk_alloc ?_ _)); refine blk_far ?_ NB163_172.out _; (with_reducible repeat (first | refine blk_drewN ?_ _ | refine blk_drew ?_ | refine blk_alloc ?_ _)); refine blk_far ?_ NB163_172.out _; (with_reducible repeat (first | refine blk_drewN ?_ _ | refine blk_drew ?_ | refine blk_alloc ?_ _)); refine blk_far ?_ NB163_172.out _; (with_reducible repeat (first | refine blk_drewN ?_ _ | refine blk_drew ?_ | refine blk_alloc ?_ _)); refine blk_far ?_ NB163_172.out _; (with_reducible repeat (first | refine blk_drewN ?_ _ | refine blk_drew ?_ | refine blk_alloc ?_ _)); refine blk_far ?_ NB163_172.out _; (with_reducible repeat (first | refine blk_drewN ?_ _ | refine blk_drew ?_ | refine blk_alloc ?_ _)); exact BK163.out))⟩; have n2_ : Aside0 (w2008.heap[gb164]? = some (.cells #[.int .i64 0, .int .i64 0, .slice none 0 0] 63 (0, 0))) := ⟨(by rw [hw]; exact (by (with_reducible repeat (first | refine blk_drewN ?_ _ | refine blk_drew ?_ | refine blk_alloc ?_ _)); refine blk_far ?_ NB164_172.out _; (with_reducible repeat (first | refine blk_drewN ?_ _ | refine blk_drew ?_ | refine blk_alloc ?_ _)); refine blk_far ?_ NB164_172.out _; (with_reducible repeat (first | refine blk_drewN ?_ _ | refine blk_drew ?_ | refine blk_alloc ?_ _)); refine blk_far ?_ NB164_172.out _; (with_reducible repeat (first | refine blk_drewN ?_ _ | refine blk_drew ?_ | refine blk_alloc ?_ _)); refine blk_far ?_ NB164_172.out _; (with_reducible repeat (first | refine blk_drewN ?_ _ | refine blk_drew ?_ | refine blk_alloc ?_ _)); refine blk_far ?_ NB164_172.out _; (with_reducible repeat (first | refine blk_drewN ?_ _ | refine blk_drew ?_ | refine blk_alloc ?_ _)); refine blk_far ?_ NB164_172.out _; (with_reducible repeat (first | refine blk_drewN ?_ _ | refine blk_drew ?_ | refine blk_alloc ?_ _)); exact BK164.out))⟩; have n3_ : Aside0 (w2008.heap[gb172]? = some (.cells #[.int .i64 ((rd_T85 x164002_1 x6_1).f0), .int .i64 ((rd_T85 x164002_1 x6_1).f1), .int .i64 ((rd_T85 x164002_1 x6_1).f2), .int .i64 ((rd_T85 x164002_1 x6_1).f3), .bool true, .bool ((rd_T85 x164002_1 x6_1).f5)] 85 (0, 0))) := ⟨(by rw [hw]; exact (by (with_reducible repeat (first | refine blk_drewN ?_ _ | refine blk_drew ?_ | refine blk_alloc ?_ _)); refine blk_put (cs := #[.int .i64 ((rd_T85 x164002_1 x6_1).f0), .int .i64 ((rd_T85 x164002_1 x6_1).f1), .int .i64 ((rd_T85 x164002_1 x6_1).f2), .int .i64 ((rd_T85 x164002_1 x6_1).f3), .bool true, .bool false]) ?_ 5 _ rfl; (with_reducible repeat (first | refine blk_drewN ?_ _ | refine blk_drew ?_ | refine blk_alloc ?_ _)); refine blk_put (cs := #[.int .i64 ((rd_T85 x164002_1 x6_1).f0), .int .i64 ((rd_T85 x164002_1 x6_1).f1), .int .i64 ((rd_T85 x164002_1 x6_1).f2), .int .i64 ((rd_T85 x164002_1 x6_1).f3), .bool false, .bool false]) ?_ 4 _ rfl; (with_reducible repeat (first | refine blk_drewN ?_ _ | refine blk_drew ?_ | refine blk_alloc ?_ _)); refine blk_put (cs := #[.int .i64 ((rd_T85 x164002_1 x6_1).f0), .int .i64 ((rd_T85 x164002_1 x6_1).f1), .int .i64 ((rd_T85 x164002_1 x6_1).f2), .int .i64 0, .bool false, .bool false]) ?_ 3 _ rfl; (with_reducible repeat (first | refine blk_drewN ?_ _ | refine blk_drew ?_ | refine blk_alloc ?_ _)); refine blk_put (cs := #[.int .i64 ((rd_T85 x164002_1 x6_1).f0), .int .i64 ((rd_T85 x164002_1 x6_1).f1), .int .i64 0, .int .i64 0, .bool false, .bool false]) ?_ 2 _ rfl; (with_reducible repeat (first | refine blk_drewN ?_ _ | refine blk_drew ?_ | refine blk_alloc ?_ _)); refine blk_put (cs := #[.int .i64 ((rd_T85 x164002_1 x6_1).f0), .int .i64 0, .int .i64 0, .int .i64 0, .bool false, .bool false]) ?_ 1 _ rfl; (with_reducible repeat (first | refine blk_drewN ?_ _ | refine blk_drew ?_ | refine blk_alloc ?_ _)); refine blk_put (cs := #[.int .i64 0, .int .i64 0, .int .i64 0, .int .i64 0, .bool false, .bool false]) ?_ 0 _ rfl; (with_reducible repeat (first | refine blk_drewN ?_ _ | refine blk_drew ?_ | refine blk_alloc ?_ _)); exact BK172.out))⟩; have n4_ : Aside0 (Below w.heap.size w w2008) := ⟨(by rw [hw]; exact wB)⟩; clear hw; clear HO_164002; clear BK163; clear BK164; clear BK172; clear HB; have HO_164002 := n0_; have BK163 := n1_; have BK164 := n2_; have BK172 := n3_; have HB := n4_; clear n0_ n1_ n2_ n3_ n4_; obtain ⟨⟨hcz2009_0, hcz2009_1, hcz2009_2, hcz2009_3, hcz2009_4, hcz2009_5⟩, hfz2009_0, hfz2009_1, hfz2009_2, hfz2009_3, hfz2009_4, hfz2009_5⟩ := cells6 BK172.out))
 go_roundg k1
 case measure => have := HK1.out; omega
 case rel => exact ⟨(x5_1), (wrap64 (x6_1 + 1)), (x164002_1), (.slice (some ad171) x164002_1.length co2003), (by first | rfl | (simp; done) | (simp [*]; done)), (by first | rfl | (simp; done) | (simp [*]; done)), H', ⟨by have := HK1.out; omega⟩, ⟨Kd.R_mono (Rh HO_164002) (fun _ hk => trivial)⟩, ⟨Bh BK163⟩, ⟨Bh BK164⟩, ⟨wB⟩⟩
 }
 iterate 3 (
 focus (
 (try rw [← Nbq1016.out] at hx171_4)
 (try rw [← Nbq1014.out] at hx171_5)
 (try rw [← Nbq1016.out] at hx171_5)
 cases e171
 replace p171 := eq_true p171
 replace q171 := eq_true q171
 )
 rotate_left
 )
 rotate_right 3
 {
 go_wp2_with (first | ((with_reducible refine gate_dst (N := 7) rfl ?_); refine box_event ?hg (N := 7) ?hd (cs := #[.int .i64 0, .int .i64 0, .int .i64 0, .int .i64 0, .bool false, .bool false]) (t := 85) ?hr ?_; (case hd => rfl); (case hg => rfl); (case hr => first | (go_simp; done) | (go_simp; rfl)); intro gb172 hg w2004 hbox hb; have n0_ := Aside0.mk (Kd.R_below (Kd.R_elderB (Rh HO_164002) gb172 (Nat.le_of_eq hg.symm)) hb); have n1_ := Aside0.mk (blk_below (Bh BK163) hb); have n2_ := Aside0.mk (blk_below (Bh BK164) hb); have n3_ := Aside0.mk (below_step wB hb); have n4_ := Aside0.mk (hbox); have n5_ := Aside0.mk ((by rw [hg]; exact (below_size wB) : w.heap.size ≤ gb172)); have n6_ := Aside0.mk ((by rw [hg]; exact (below_size wB) : w.heap.size ≤ gb172)); have n7_ := Aside0.mk ((by rw [hg]; exact Nat.ne_of_lt (blk_lt (Bh BK163)) : gb163 ≠ gb172)); have n8_ := Aside0.mk ((by rw [hg]; exact Nat.ne_of_gt (blk_lt (Bh BK163)) : gb172 ≠ gb163)); have n9_ := Aside0.mk ((by rw [hg]; exact Nat.ne_of_lt (blk_lt (Bh BK164)) : gb164 ≠ gb172)); have n10_ := Aside0.mk ((by rw [hg]; exact Nat.ne_of_gt (blk_lt (Bh BK164)) : gb172 ≠ gb164)); clear HO_164002; clear BK163; clear BK164; clear HB; have HO_164002 := n0_; have BK163 := n1_; have BK164 := n2_; have HB := n3_; have BK172 := n4_; have GW172 := n5_; have GE172 := n6_; have NB163_172 := n7_; have NB172_163 := n8_; have NB164_172 := n9_; have NB172_164 := n10_; clear n0_ n1_ n2_ n3_ n4_ n5_ n6_ n7_ n8_ n9_ n10_; clear hb hbox hg; have hnb2005 := NB172_163.out; have hnc2005 := NB163_172.out; have hnb2006 := NB172_164.out; have hnc2006 := NB164_172.out; obtain ⟨⟨hcz2007_0, hcz2007_1, hcz2007_2, hcz2007_3, hcz2007_4, hcz2007_5⟩, hfz2007_0, hfz2007_1, hfz2007_2, hfz2007_3, hfz2007_4, hfz2007_5⟩ := cells6 BK172.out) | ((with_reducible refine gate_store (t := 85) (p := 7) rfl ?_); refine store_event (t := 85) (p := 7) (v := ?_) (w1 := ((((((w2004.setCell ⟨gb172, 0, none⟩ (.int .i64 ((rd_T85 x164002_1 x6_1).f0))).setCell ⟨gb172, 1, none⟩ (.int .i64 ((rd_T85 x164002_1 x6_1).f1))).setCell ⟨gb172, 2, none⟩ (.int .i64 ((rd_T85 x164002_1 x6_1).f2))).setCell ⟨gb172, 3, none⟩ (.int .i64 ((rd_T85 x164002_1 x6_1).f3))).setCell ⟨gb172, 4, none⟩ (.bool false)).setCell ⟨gb172, 5, none⟩ (.bool true))) ?hg ?ho ?hn ?hr ?_; (case ho => rfl); (case hg => rfl); (case hn => rfl); (case hr => first | (go_simp; done) | (go_simp; rfl)); intro w2008 hw; have n0_ : Aside0 (Kd.R k85 85 w2008 w.heap.size (fun k_ => k_ ≠ gb172) (.slice (some ad171) x164002_1.length co2003) x164002_1) := ⟨(by rw [hw]; exact (by (with_reducible repeat (first | apply Kd.R_alloc | apply Kd.R_drewN | apply Kd.R_drew)); exact Kd.R_mono (Kd.R_far (p := ⟨gb172, 5, none⟩) (Kd.R_far (p := ⟨gb172, 4, none⟩) (Kd.R_far (p := ⟨gb172, 3, none⟩) (Kd.R_far (p := ⟨gb172, 2, none⟩) (Kd.R_far (p := ⟨gb172, 1, none⟩) (Kd.R_far (p := ⟨gb172, 0, none⟩) (Kd.R_mono HO_164002.out (fun k_ hk => (⟨hk, hk.2⟩ : _ ∧ k_ ≠ gb172))) (fun _ hk => hk.2) (.int .i64 ((rd_T85 x164002_1 x6_1).f0))) (fun _ hk => hk.2) (.int .i64 ((rd_T85 x164002_1 x6_1).f1))) (fun _ hk => hk.2) (.int .i64 ((rd_T85 x164002_1 x6_1).f2))) (fun _ hk => hk.2) (.int .i64 ((rd_T85 x164002_1 x6_1).f3))) (fun _ hk => hk.2) (.bool false)) (fun _ hk => hk.2) (.bool true)) (fun _ hk => hk.1.2)))⟩; have n1_ : Aside0 (w2008.heap[gb163]? = some (.cells #[.int .i64 t166, .int .i64 t167, .slice (some ad171) x164002_1.length co2003] 63 (0, 0))) := ⟨(by rw [hw]; exact (by (with_reducible repeat (first | refine blk_drewN ?_ _ | refine blk_drew ?_ | refine blk_alloc ?_ _)); refine blk_far ?_ NB163_172.out _; (with_reducible repeat (first | refine blk_drewN ?_ _ | refine blk_drew ?_ | refine blk_alloc ?_ _)); refine blk_far ?_ NB163_172.out _; (with_reducible repeat (first | refine blk_drewN ?_ _ | refine blk_drew ?_ | refine blk_alloc ?_ _)); refine blk_far ?_ NB163_172.out _; (with_reducible repeat (first | refine blk_drewN ?_ _ | refine blk_drew ?_ | refine blk_alloc ?_ _)); refine blk_far ?_ NB163_172.out _; (with_reducible repeat (first | refine blk_drewN ?_ _ | refine blk_drew ?_ | refine blk_alloc ?_ _)); refine blk_far ?_ NB163_172.out _; (with_reducible repeat (first | refine blk_drewN ?_ _ | refine blk_drew ?_ | refine blk_alloc ?_ _)); refine blk_far ?_ NB163_172.out _; (with_reducible repeat (first | refine blk_drewN ?_ _ | refine blk_drew ?_ | refine blk_alloc ?_ _)); exact BK163.out))⟩; have n2_ : Aside0 (w2008.heap[gb164]? = some (.cells #[.int .i64 0, .int .i64 0, .slice none 0 0] 63 (0, 0))) := ⟨(by rw [hw]; exact (by (with_reducible repeat (first | refine blk_drewN ?_ _ | refine blk_drew ?_ | refine blk_alloc ?_ _)); refine blk_far ?_ NB164_172.out _; (with_reducible repeat (first | refine blk_drewN ?_ _ | refine blk_drew ?_ | refine blk_alloc ?_ _)); refine blk_far ?_ NB164_172.out _; (with_reducible repeat (first | refine blk_drewN ?_ _ | refine blk_drew ?_ | refine blk_alloc ?_ _)); refine blk_far ?_ NB164_172.out _; (with_reducible repeat (first | refine blk_drewN ?_ _ | refine blk_drew ?_ | refine blk_alloc ?_ _)); refine blk_far ?_ NB164_172.out _; (with_reducible repeat (first | refine blk_drewN ?_ _ | refine blk_drew ?_ | refine blk_alloc ?_ _)); refine blk_far ?_ NB164_172.out _; (with_reducible repeat (first | refine blk_drewN ?_ _ | refine blk_drew ?_ | refine blk_alloc ?_ _)); refine blk_far ?_ NB164_172.out _; (with_reducible repeat (first | refine blk_drewN ?_ _ | refine blk_drew ?_ | refine blk_alloc ?_ _)); exact BK164.out))⟩; have n3_ : Aside0 (w2008.heap[gb172]? = some (.cells #[.int .i64 ((rd_T85 x164002_1 x6_1).f0), .int .i64 ((rd_T85 x164002_1 x6_1).f1), .int .i64 ((rd_T85 x164002_1 x6_1).f2), .int .i64 ((rd_T85 x164002_1 x6_1).f3), .bool false, .bool true] 85 (0, 0))) := ⟨(by rw [hw]; exact (by (with_reducible repeat (first | refine blk_drewN ?_ _ | refine blk_drew ?_ | refine blk_alloc ?_ _)); refine blk_put (cs := #[.int .i64 ((rd_T85 x164002_1 x6_1).f0), .int .i64 ((rd_T85 x164002_1 x6_1).f1), .int .i64 ((rd_T85 x164002_1 x6_1).f2), .int .i64 ((rd_T85 x164002_1 x6_1).f3), .bool false, .bool false]) ?_ 5 _ rfl; (with_reducible repeat (first | refine blk_drewN ?_ _ | refine blk_drew ?_ | refine blk_alloc ?_ _)); refine blk_put (cs := #[.int .i64 ((rd_T85 x164002_1 x6_1).f0), .int .i64 ((rd_T85 x164002_1 x6_1).f1), .int .i64 ((rd_T85 x164002_1 x6_1).f2), .int .i64 ((rd_T85 x164002_1 x6_1).f3), .bool false, .bool false]) ?_ 4 _ rfl; (with_reducible repeat (first | refine blk_drewN ?_ _ | refine blk_drew ?_ | refine blk_alloc ?_ _)); refine blk_put (cs := #[.int .i64 ((rd_T85 x164002_1 x6_1).f0), .int .i64 ((rd_T85 x164002_1 x6_1).f1), .int .i64 ((rd_T85 x164002_1 x6_1).f2), .int .i64 0, .bool false, .bool false]) ?_ 3 _ rfl; (with_reducible repeat (first | refine blk_drewN ?_ _ | refine blk_drew ?_ | refine blk_alloc ?_ _)); refine blk_put (cs := #[.int .i64 ((rd_T85 x164002_1 x6_1).f0), .int .i64 ((rd_T85 x164002_1 x6_1).f1), .int .i64 0, .int .i64 0, .bool false, .bool false]) ?_ 2 _ rfl; (with_reducible repeat (first | refine blk_drewN ?_ _ | refine blk_drew ?_ | refine blk_alloc ?_ _)); refine blk_put (cs := #[.int .i64 ((rd_T85 x164002_1 x6_1).f0), .int .i64 0, .int .i64 0, .int .i64 0, .bool false, .bool false]) ?_ 1 _ rfl; (with_reducible repeat (first | refine blk_drewN ?_ _ | refine blk_drew ?_ | refine blk_alloc ?_ _)); refine blk_put (cs := #[.int .i64 0, .int .i64 0, .int .i64 0, .int .i64 0, .bool false, .bool false]) ?_ 0 _ rfl; (with_reducible repeat (first | refine blk_drewN ?_ _ | refine blk_drew ?_ | refine blk_alloc ?_ _)); exact BK172.out))⟩; have n4_ : Aside0 (Below w.heap.size w w2008) := ⟨(by rw [hw]; exact wB)⟩; clear hw; clear HO_164002; clear BK163; clear BK164; clear BK172; clear HB; have HO_164002 := n0_; have BK163 := n1_; have BK164 := n2_; have BK172 := n3_; have HB := n4_; clear n0_ n1_ n2_ n3_ n4_; obtain ⟨⟨hcz2009_0, hcz2009_1, hcz2009_2, hcz2009_3, hcz2009_4, hcz2009_5⟩, hfz2009_0, hfz2009_1, hfz2009_2, hfz2009_3, hfz2009_4, hfz2009_5⟩ := cells6 BK172.out))
 go_roundg k1
 case measure => have := HK1.out; omega
 case rel => exact ⟨(x5_1), (wrap64 (x6_1 + 1)), (x164002_1), (.slice (some ad171) x164002_1.length co2003), (by first | rfl | (simp; done) | (simp [*]; done)), (by first | rfl | (simp; done) | (simp [*]; done)), H', ⟨by have := HK1.out; omega⟩, ⟨Kd.R_mono (Rh HO_164002) (fun _ hk => trivial)⟩, ⟨Bh BK163⟩, ⟨Bh BK164⟩, ⟨wB⟩⟩
 }
 {
 go_wp2_with (first | ((with_reducible refine gate_dst (N := 7) rfl ?_); refine box_event ?hg (N := 7) ?hd (cs := #[.int .i64 0, .int .i64 0, .int .i64 0, .int .i64 0, .bool false, .bool false]) (t := 85) ?hr ?_; (case hd => rfl); (case hg => rfl); (case hr => first | (go_simp; done) | (go_simp; rfl)); intro gb172 hg w2004 hbox hb; have n0_ := Aside0.mk (Kd.R_below (Kd.R_elderB (Rh HO_164002) gb172 (Nat.le_of_eq hg.symm)) hb); have n1_ := Aside0.mk (blk_below (Bh BK163) hb); have n2_ := Aside0.mk (blk_below (Bh BK164) hb); have n3_ := Aside0.mk (below_step wB hb); have n4_ := Aside0.mk (hbox); have n5_ := Aside0.mk ((by rw [hg]; exact (below_size wB) : w.heap.size ≤ gb172)); have n6_ := Aside0.mk ((by rw [hg]; exact (below_size wB) : w.heap.size ≤ gb172)); have n7_ := Aside0.mk ((by rw [hg]; exact Nat.ne_of_lt (blk_lt (Bh BK163)) : gb163 ≠ gb172)); have n8_ := Aside0.mk ((by rw [hg]; exact Nat.ne_of_gt (blk_lt (Bh BK163)) : gb172 ≠ gb163)); have n9_ := Aside0.mk ((by rw [hg]; exact Nat.ne_of_lt (blk_lt (Bh BK164)) : gb164 ≠ gb172)); have n10_ := Aside0.mk ((by rw [hg]; exact Nat.ne_of_gt (blk_lt (Bh BK164)) : gb172 ≠ gb164)); clear HO_164002; clear BK163; clear BK164; clear HB; have HO_164002 := n0_; have BK163 := n1_; have BK164 := n2_; have HB := n3_; have BK172 := n4_; have GW172 := n5_; have GE172 := n6_; have NB163_172 := n7_; have NB172_163 := n8_; have NB164_172 := n9_; have NB172_164 := n10_; clear n0_ n1_ n2_ n3_ n4_ n5_ n6_ n7_ n8_ n9_ n10_; clear hb hbox hg; have hnb2005 := NB172_163.out; have hnc2005 := NB163_172.out; have hnb2006 := NB172_164.out; have hnc2006 := NB164_172.out; obtain ⟨⟨hcz2007_0, hcz2007_1, hcz2007_2, hcz2007_3, hcz2007_4, hcz2007_5⟩, hfz2007_0, hfz2007_1, hfz2007_2, hfz2007_3, hfz2007_4, hfz2007_5⟩ := cells6 BK172.out) | ((with_reducible refine gate_store (t := 85) (p := 7) rfl ?_); refine store_event (t := 85) (p := 7) (v := ?_) (w1 := ((((((w2004.setCell ⟨gb172, 0, none⟩ (.int .i64 ((rd_T85 x164002_1 x6_1).f0))).setCell ⟨gb172, 1, none⟩ (.int .i64 ((rd_T85 x164002_1 x6_1).f1))).setCell ⟨gb172, 2, none⟩ (.int .i64 ((rd_T85 x164002_1 x6_1).f2))).setCell ⟨gb172, 3, none⟩ (.int .i64 ((rd_T85 x164002_1 x6_1).f3))).setCell ⟨gb172, 4, none⟩ (.bool false)).setCell ⟨gb172, 5, none⟩ (.bool false))) ?hg ?ho ?hn ?hr ?_; (case ho => rfl); (case hg => rfl); (case hn => rfl); (case hr => first | (go_simp; done) | (go_simp; rfl)); intro w2008 hw; have n0_ : Aside0 (Kd.R k85 85 w2008 w.heap.size (fun k_ => k_ ≠ gb172) (.slice (some ad171) x164002_1.length co2003) x164002_1) := ⟨(by rw [hw]; exact (by (with_reducible repeat (first | apply Kd.R_alloc | apply Kd.R_drewN | apply Kd.R_drew)); exact Kd.R_mono (Kd.R_far (p := ⟨gb172, 5, none⟩) (Kd.R_far (p := ⟨gb172, 4, none⟩) (Kd.R_far (p := ⟨gb172, 3, none⟩) (Kd.R_far (p := ⟨gb172, 2, none⟩) (Kd.R_far (p := ⟨gb172, 1, none⟩) (Kd.R_far (p := ⟨gb172, 0, none⟩) (Kd.R_mono HO_164002.out (fun k_ hk => (⟨hk, hk.2⟩ : _ ∧ k_ ≠ gb172))) (fun _ hk => hk.2) (.int .i64 ((rd_T85 x164002_1 x6_1).f0))) (fun _ hk => hk.2) (.int .i64 ((rd_T85 x164002_1 x6_1).f1))) (fun _ hk => hk.2) (.int .i64 ((rd_T85 x164002_1 x6_1).f2))) (fun _ hk => hk.2) (.int .i64 ((rd_T85 x164002_1 x6_1).f3))) (fun _ hk => hk.2) (.bool false)) (fun _ hk => hk.2) (.bool false)) (fun _ hk => hk.1.2)))⟩; have n1_ : Aside0 (w2008.heap[gb163]? = some (.cells #[.int .i64 t166, .int .i64 t167, .slice (some ad171) x164002_1.length co2003] 63 (0, 0))) := ⟨(by rw [hw]; exact (by (with_reducible repeat (first | refine blk_drewN ?_ _ | refine blk_drew ?_ | refine blk_alloc ?_ _)); refine blk_far ?_ NB163_172.out _; (with_reducible repeat (first | refine blk_drewN ?_ _ | refine blk_drew ?_ | refine blk_alloc ?_ _)); refine blk_far ?_ NB163_172.out _; (with_reducible repeat (first | refine blk_drewN ?_ _ | refine blk_drew ?_ | refine blk_alloc ?_ _)); refine blk_far ?_ NB163_172.out _; (with_reducible repeat (first | refine blk_drewN ?_ _ | refine blk_drew ?_ | refine blk_alloc ?_ _)); refine blk_far ?_ NB163_172.out _; (with_reducible repeat (first | refine blk_drewN ?_ _ | refine blk_drew ?_ | refine blk_alloc ?_ _)); refine blk_far ?_ NB163_172.out _; (with_reducible repeat (first | refine blk_drewN ?_ _ | refine blk_drew ?_ | refine blk_alloc ?_ _)); refine blk_far ?_ NB163_172.out _; (with_reducible repeat (first | refine blk_drewN ?_ _ | refine blk_drew ?_ | refine blk_alloc ?_ _)); exact BK163.out))⟩; have n2_ : Aside0 (w2008.heap[gb164]? = some (.cells #[.int .i64 0, .int .i64 0, .slice none 0 0] 63 (0, 0))) := ⟨(by rw [hw]; exact (by (with_reducible repeat (first | refine blk_drewN ?_ _ | refine blk_drew ?_ | refine blk_alloc ?_ _)); refine blk_far ?_ NB164_172.out _; (with_reducible repeat (first | refine blk_drewN ?_ _ | refine blk_drew ?_ | refine blk_alloc ?_ _)); refine blk_far ?_ NB164_172.out _; (with_reducible repeat (first | refine blk_drewN ?_ _ | refine blk_drew ?_ | refine blk_alloc ?_ _)); refine blk_far ?_ NB164_172.out _; (with_reducible repeat (first | refine blk_drewN ?_ _ | refine blk_drew ?_ | refine blk_alloc ?_ _)); refine blk_far ?_ NB164_172.out _; (with_reducible repeat (first | refine blk_drewN ?_ _ | refine blk_drew ?_ | refine blk_alloc ?_ _)); refine blk_far ?_ NB164_172.out _; (with_reducible repeat (first | refine blk_drewN ?_ _ | refine blk_drew ?_ | refine blk_alloc ?_ _)); refine blk_far ?_ NB164_172.out _; (with_reducible repeat (first | refine blk_drewN ?_ _ | refine blk_drew ?_ | refine blk_alloc ?_ _)); exact BK164.out))⟩; have n3_ : Aside0 (w2008.heap[gb172]? = some (.cells #[.int .i64 ((rd_T85 x164002_1 x6_1).f0), .int .i64 ((rd_T85 x164002_1 x6_1).f1), .int .i64 ((rd_T85 x164002_1 x6_1).f2), .int .i64 ((rd_T85 x164002_1 x6_1).f3), .bool false, .bool false] 85 (0, 0))) := ⟨(by rw [hw]; exact (by (with_reducible repeat (first | refine blk_drewN ?_ _ | refine blk_drew ?_ | refine blk_alloc ?_ _)); refine blk_put (cs := #[.int .i64 ((rd_T85 x164002_1 x6_1).f0), .int .i64 ((rd_T85 x164002_1 x6_1).f1), .int .i64 ((rd_T85 x164002_1 x6_1).f2), .int .i64 ((rd_T85 x164002_1 x6_1).f3), .bool false, .bool false]) ?_ 5 _ rfl; (with_reducible repeat (first | refine blk_drewN ?_ _ | refine blk_drew ?_ | refine blk_alloc ?_ _)); refine blk_put (cs := #[.int .i64 ((rd_T85 x164002_1 x6_1).f0), .int .i64 ((rd_T85 x164002_1 x6_1).f1), .int .i64 ((rd_T85 x164002_1 x6_1).f2), .int .i64 ((rd_T85 x164002_1 x6_1).f3), .bool false, .bool false]) ?_ 4 _ rfl; (with_reducible repeat (first | refine blk_drewN ?_ _ | refine blk_drew ?_ | refine blk_alloc ?_ _)); refine blk_put (cs := #[.int .i64 ((rd_T85 x164002_1 x6_1).f0), .int .i64 ((rd_T85 x164002_1 x6_1).f1), .int .i64 ((rd_T85 x164002_1 x6_1).f2), .int .i64 0, .bool false, .bool false]) ?_ 3 _ rfl; (with_reducible repeat (first | refine blk_drewN ?_ _ | refine blk_drew ?_ | refine blk_alloc ?_ _)); refine blk_put (cs := #[.int .i64 ((rd_T85 x164002_1 x6_1).f0), .int .i64 ((rd_T85 x164002_1 x6_1).f1), .int .i64 0, .int .i64 0, .bool false, .bool false]) ?_ 2 _ rfl; (with_reducible repeat (first | refine blk_drewN ?_ _ | refine blk_drew ?_ | refine blk_alloc ?_ _)); refine blk_put (cs := #[.int .i64 ((rd_T85 x164002_1 x6_1).f0), .int .i64 0, .int .i64 0, .int .i64 0, .bool false, .bool false]) ?_ 1 _ rfl; (with_reducible repeat (first | refine blk_drewN ?_ _ | refine blk_drew ?_ | refine blk_alloc ?_ _)); refine blk_put (cs := #[.int .i64 0, .int .i64 0, .int .i64 0, .int .i64 0, .bool false, .bool false]) ?_ 0 _ rfl; (with_reducible repeat (first | refine blk_drewN ?_ _ | refine blk_drew ?_ | refine blk_alloc ?_ _)); exact BK172.out))⟩; have n4_ : Aside0 (Below w.heap.size w w2008) := ⟨(by rw [hw]; exact wB)⟩; clear hw; clear HO_164002; clear BK163; clear BK164; clear BK172; clear HB; have HO_164002 := n0_; have BK163 := n1_; have BK164 := n2_; have BK172 := n3_; have HB := n4_; clear n0_ n1_ n2_ n3_ n4_; obtain ⟨⟨hcz2009_0, hcz2009_1, hcz2009_2, hcz2009_3, hcz2009_4, hcz2009_5⟩, hfz2009_0, hfz2009_1, hfz2009_2, hfz2009_3, hfz2009_4, hfz2009_5⟩ := cells6 BK172.out; obtain ⟨⟨hcz2010_0, hcz2010_1, hcz2010_2⟩, hfz2010_0, hfz2010_1, hfz2010_2⟩ := cells3 BK163.out) | (go_at_call 108; (with_reducible refine (spec_l15Behind.calls k1 t166 t167 _ _ x164002_1 x6_1 t173 _ ?side1 ?side2 A1018.out).mono ?_); (case side1 => exact Ch HO_164002); (case side2 => exact (Kd.R_reads' HO_164002.out).2.1); rintro e w2011 ⟨rfl, hb⟩; have n0_ := Aside0.mk (Kd.R_below (Rh HO_164002) hb); have n1_ := Aside0.mk (blk_below (Bh BK163) hb); have n2_ := Aside0.mk (blk_below (Bh BK164) hb); have n3_ := Aside0.mk (blk_below (Bh BK172) hb); have n4_ := Aside0.mk (below_step wB hb); clear HO_164002; clear BK163; clear BK164; clear BK172; clear HB; have HO_164002 := n0_; have BK163 := n1_; have BK164 := n2_; have BK172 := n3_; have HB := n4_; clear n0_ n1_ n2_ n3_ n4_; (try clear hb); (try clear hb2); (try clear hk); (try clear hi); obtain ⟨⟨hcz2012_0, hcz2012_1, hcz2012_2⟩, hfz2012_0, hfz2012_1, hfz2012_2⟩ := cells3 BK163.out; have p1020 : 0 ≤ (x6_1 : Int) := of_decide_eq_true (by first | (with_reducible assumption) | assumption); have q1020 : (x6_1 : Int) < ((x164002_1.length : Int) : Int) := of_decide_eq_true (by first | (with_reducible assumption) | assumption); obtain ⟨go1020, co1020, eo1020, gb1020, gl1020, cl1020, HG1020⟩ := Kd.R_form HO_164002.out (by omega); (first | cases eo1020 | (injection eo1020 with ea_ en_ ec_; (first | subst ea_ | (injection ea_ with ea_; subst ea_)); subst ec_; clear en_)); have GB1020 := Aside0.mk gb1020; have GG1020 := Aside0.mk HG1020; clear gb1020 gl1020 HG1020; (first | simp only [add_plain] at hx171_0 | skip); (first | simp only [add_plain] at hx171_1 | skip); (first | simp only [add_plain] at hx171_2 | skip); (first | simp only [add_plain] at hx171_3 | skip); (first | simp only [add_plain] at hx171_4 | skip); (first | simp only [add_plain] at hx171_5 | skip); obtain ⟨ce1020, hcl1020, hM1020, hcc1020, hfr1020⟩ := Kd.R_elem HO_164002.out z85 (x6_1 : Int) p1020 q1020; obtain rfl := k85_openM hM1020; have hx1020_0 : w2011.cell? ⟨go1020, (x6_1 : Int).toNat * 6, none⟩ = some (.int .i64 ((rd_T85 x164002_1 x6_1).f0)) := hcc1020 0 _ rfl; have hx1020_1 : w2011.cell? ⟨go1020, (x6_1 : Int).toNat * 6 + 1, none⟩ = some (.int .i64 ((rd_T85 x164002_1 x6_1).f1)) := hcc1020 1 _ rfl; have hx1020_2 : w2011.cell? ⟨go1020, (x6_1 : Int).toNat * 6 + 2, none⟩ = some (.int .i64 ((rd_T85 x164002_1 x6_1).f2)) := hcc1020 2 _ rfl; have hx1020_3 : w2011.cell? ⟨go1020, (x6_1 : Int).toNat * 6 + 3, none⟩ = some (.int .i64 ((rd_T85 x164002_1 x6_1).f3)) := hcc1020 3 _ rfl; have hx1020_4 : w2011.cell? ⟨go1020, (x6_1 : Int).toNat * 6 + 4, none⟩ = some (.bool ((rd_T85 x164002_1 x6_1).f4)) := hcc1020 4 _ rfl; have hx1020_5 : w2011.cell? ⟨go1020, (x6_1 : Int).toNat * 6 + 5, none⟩ = some (.bool ((rd_T85 x164002_1 x6_1).f5)) := hcc1020 5 _ rfl; have hf1020_0 : w2011.frozen? ⟨go1020, (x6_1 : Int).toNat * 6, none⟩ = false := hfr1020 0; have hf1020_1 : w2011.frozen? ⟨go1020, (x6_1 : Int).toNat * 6 + 1, none⟩ = false := hfr1020 1; have hf1020_2 : w2011.frozen? ⟨go1020, (x6_1 : Int).toNat * 6 + 2, none⟩ = false := hfr1020 2; have hf1020_3 : w2011.frozen? ⟨go1020, (x6_1 : Int).toNat * 6 + 3, none⟩ = false := hfr1020 3; have hf1020_4 : w2011.frozen? ⟨go1020, (x6_1 : Int).toNat * 6 + 4, none⟩ = false := hfr1020 4; have hf1020_5 : w2011.frozen? ⟨go1020, (x6_1 : Int).toNat * 6 + 5, none⟩ = false := hfr1020 5; clear hcl1020 hcc1020 hfr1020 hM1020; (try rw [← Nbq1014.out] at hx1020_4); (try rw [← Nbq1016.out] at hx1020_4); (try rw [← Nbq1014.out] at hx1020_5); (try rw [← Nbq1016.out] at hx1020_5); replace p1020 := eq_true p1020; replace q1020 := eq_true q1020; have HX2013 := Aside0.mk (show Kd.R k85 85 w2011 w.heap.size (fun k_ => k_ ≠ gb172) (.slice (some ⟨go1020, 0, none⟩) x164002_1.length co2003) x164002_1 from (Rh HO_164002)); obtain ⟨ce2013, hcl2013, hM2013, hcc2013, hfr2013⟩ := Kd.R_elem HX2013.out z85 (x6_1 : Int) (of_decide_eq_true (by first | (with_reducible assumption) | assumption)) (by have h_ : (x6_1 : Int) < ((x164002_1.length : Int) : Int) := of_decide_eq_true (by first | (with_reducible assumption) | assumption); first | exact h_ | (have e_ := (Kd.R_reads' HO_164002.out).1; omega) | simpa using h_); obtain rfl := k85_openM hM2013; have HP2013 := Kd.R_seg HX2013.out (x6_1 : Int) (of_decide_eq_true (by first | (with_reducible assumption) | assumption)) (by have h_ : (x6_1 : Int) < ((x164002_1.length : Int) : Int) := of_decide_eq_true (by first | (with_reducible assumption) | assumption); first | exact h_ | (have e_ := (Kd.R_reads' HO_164002.out).1; omega) | simpa using h_) (seg := [.bool true]) (j := 5) hcl2013 hcc2013 (show 6 ≤ 6 from by decide) (x' := (⟨(rd_T85 x164002_1 x6_1).f0, (rd_T85 x164002_1 x6_1).f1, (rd_T85 x164002_1 x6_1).f2, (rd_T85 x164002_1 x6_1).f3, false, true⟩ : S85)) (by first | exact k85_mkM _ _ _ (⟨(rd_T85 x164002_1 x6_1).f0, (rd_T85 x164002_1 x6_1).f1, (rd_T85 x164002_1 x6_1).f2, (rd_T85 x164002_1 x6_1).f3, false, true⟩ : S85) | ((try (have e_ := Nbq1016.out; simp only [rd_T85] at e_; rw [← e_])); (try (have e_ := Nbq1014.out; simp only [rd_T85] at e_; rw [← e_])); exact k85_mkM _ _ _ (⟨(rd_T85 x164002_1 x6_1).f0, (rd_T85 x164002_1 x6_1).f1, (rd_T85 x164002_1 x6_1).f2, (rd_T85 x164002_1 x6_1).f3, false, true⟩ : S85))) (fun _ hk => hk); have hx2013_5 := hcc2013 5 _ rfl; (try simp only [show (k85).sz = 6 from rfl, Nat.mul_one, Nat.add_zero] at hx2013_5); have hf2013_5 := hfr2013 5; (try simp only [show (k85).sz = 6 from rfl, Nat.mul_one, Nat.add_zero] at hf2013_5); clear hcl2013 hcc2013 hfr2013 hM2013) | ((with_reducible refine gate_store (t := 4) (p := 49) rfl ?_); refine store_event (t := 4) (p := 49) (v := ?_) (w1 := (w2011.setCell ⟨go1020, (x6_1 : Int).toNat * 6 + 5, none⟩ (.bool true))) ?hg ?ho ?hn ?hr ?_; (case ho => rfl); (case hg => rfl); (case hn => rfl); (case hr => first | (go_simp; done) | (go_simp; rfl)); intro w2014 hw; have hg : w2011.grownBy w2014 (some go1020) := (by rw [hw]; exact HP2013.2); have hp_ : Kd.R k85 85 w2014 w.heap.size (fun k_ => k_ ≠ gb172) (.slice (some ⟨go1020, 0, none⟩) x164002_1.length co2003) y174 := (by rw [hw, Ny174.out]; exact HP2013.1); clear HP2013; have n0_ := Aside0.mk (hp_); have n1_ := Aside0.mk (blk_grown (Bh BK163) hg (Kd.R_ne HO_164002.out BK163.out (by decide))); have n2_ := Aside0.mk (blk_grown (Bh BK164) hg (Kd.R_ne HO_164002.out BK164.out (by decide))); have n3_ := Aside0.mk (blk_grown (Bh BK172) hg (Kd.R_away HO_164002.out (fun _ hk => hk))); have n4_ := Aside0.mk ((by rw [hw]; exact below_set (HB.out) GB1020.out : Below w.heap.size w w2014)); clear HO_164002; clear BK163; clear BK164; clear BK172; clear HB; have HO_164002 := n0_; have BK163 := n1_; have BK164 := n2_; have BK172 := n3_; have HB := n4_; clear n0_ n1_ n2_ n3_ n4_; clear hg hw hp_; obtain ⟨⟨hcz2015_0, hcz2015_1, hcz2015_2, hcz2015_3, hcz2015_4, hcz2015_5⟩, hfz2015_0, hfz2015_1, hfz2015_2, hfz2015_3, hfz2015_4, hfz2015_5⟩ := cells6 BK172.out))
 go_roundg k1
 case measure => have := HK1.out; omega
 case rel => exact ⟨(wrap64 ((wrap64 (x5_1 + ((rd_T85 x164002_1 x6_1).f1))) - ((rd_T85 x164002_1 x6_1).f0))), (wrap64 (x6_1 + 1)), (y174), (.slice (some ⟨go1020, 0, none⟩) x164002_1.length co2003), (by first | rfl | (simp; done) | (simp [*]; done)), (by first | rfl | (simp; done) | (simp [*]; done)), H', ⟨by have := HK1.out; omega⟩, ⟨Kd.R_mono (Rh HO_164002) (fun _ hk => trivial)⟩, ⟨Bh BK163⟩, ⟨Bh BK164⟩, ⟨wB⟩⟩
 }
 {
 go_wp2_with (first | ((with_reducible refine gate_dst (N := 7) rfl ?_); refine box_event ?hg (N := 7) ?hd (cs := #[.int .i64 0, .int .i64 0, .int .i64 0, .int .i64 0, .bool false, .bool false]) (t := 85) ?hr ?_; (case hd => rfl); (case hg => rfl); (case hr => first | (go_simp; done) | (go_simp; rfl)); intro gb172 hg w2004 hbox hb; have n0_ := Aside0.mk (Kd.R_below (Kd.R_elderB (Rh HO_164002) gb172 (Nat.le_of_eq hg.symm)) hb); have n1_ := Aside0.mk (blk_below (Bh BK163) hb); have n2_ := Aside0.mk (blk_below (Bh BK164) hb); have n3_ := Aside0.mk (below_step wB hb); have n4_ := Aside0.mk (hbox); have n5_ := Aside0.mk ((by rw [hg]; exact (below_size wB) : w.heap.size ≤ gb172)); have n6_ := Aside0.mk ((by rw [hg]; exact (below_size wB) : w.heap.size ≤ gb172)); have n7_ := Aside0.mk ((by rw [hg]; exact Nat.ne_of_lt (blk_lt (Bh BK163)) : gb163 ≠ gb172)); have n8_ := Aside0.mk ((by rw [hg]; exact Nat.ne_of_gt (blk_lt (Bh BK163)) : gb172 ≠ gb163)); have n9_ := Aside0.mk ((by rw [hg]; exact Nat.ne_of_lt (blk_lt (Bh BK164)) : gb164 ≠ gb172)); have n10_ := Aside0.mk ((by rw [hg]; exact Nat.ne_of_gt (blk_lt (Bh BK164)) : gb172 ≠ gb164)); clear HO_164002; clear BK163; clear BK164; clear HB; have HO_164002 := n0_; have BK163 := n1_; have BK164 := n2_; have HB := n3_; have BK172 := n4_; have GW172 := n5_; have GE172 := n6_; have NB163_172 := n7_; have NB172_163 := n8_; have NB164_172 := n9_; have NB172_164 := n10_; clear n0_ n1_ n2_ n3_ n4_ n5_ n6_ n7_ n8_ n9_ n10_; clear hb hbox hg; have hnb2005 := NB172_163.out; have hnc2005 := NB163_172.out; have hnb2006 := NB172_164.out; have hnc2006 := NB164_172.out; obtain ⟨⟨hcz2007_0, hcz2007_1, hcz2007_2, hcz2007_3, hcz2007_4, hcz2007_5⟩, hfz2007_0, hfz2007_1, hfz2007_2, hfz2007_3, hfz2007_4, hfz2007_5⟩ := cells6 BK172.out) | ((with_reducible refine gate_store (t := 85) (p := 7) rfl ?_); refine store_event (t := 85) (p := 7) (v := ?_) (w1 := ((((((w2004.setCell ⟨gb172, 0, none⟩ (.int .i64 ((rd_T85 x164002_1 x6_1).f0))).setCell ⟨gb172, 1, none⟩ (.int .i64 ((rd_T85 x164002_1 x6_1).f1))).setCell ⟨gb172, 2, none⟩ (.int .i64 ((rd_T85 x164002_1 x6_1).f2))).setCell ⟨gb172, 3, none⟩ (.int .i64 ((rd_T85 x164002_1 x6_1).f3))).setCell ⟨gb172, 4, none⟩ (.bool false)).setCell ⟨gb172, 5, none⟩ (.bool false))) ?hg ?ho ?hn ?hr ?_; (case ho => rfl); (case hg => rfl); (case hn => rfl); (case hr => first | (go_simp; done) | (go_simp; rfl)); intro w2008 hw; have n0_ : Aside0 (Kd.R k85 85 w2008 w.heap.size (fun k_ => k_ ≠ gb172) (.slice (some ad171) x164002_1.length co2003) x164002_1) := ⟨(by rw [hw]; exact (by (with_reducible repeat (first | apply Kd.R_alloc | apply Kd.R_drewN | apply Kd.R_drew)); exact Kd.R_mono (Kd.R_far (p := ⟨gb172, 5, none⟩) (Kd.R_far (p := ⟨gb172, 4, none⟩) (Kd.R_far (p := ⟨gb172, 3, none⟩) (Kd.R_far (p := ⟨gb172, 2, none⟩) (Kd.R_far (p := ⟨gb172, 1, none⟩) (Kd.R_far (p := ⟨gb172, 0, none⟩) (Kd.R_mono HO_164002.out (fun k_ hk => (⟨hk, hk.2⟩ : _ ∧ k_ ≠ gb172))) (fun _ hk => hk.2) (.int .i64 ((rd_T85 x164002_1 x6_1).f0))) (fun _ hk => hk.2) (.int .i64 ((rd_T85 x164002_1 x6_1).f1))) (fun _ hk => hk.2) (.int .i64 ((rd_T85 x164002_1 x6_1).f2))) (fun _ hk => hk.2) (.int .i64 ((rd_T85 x164002_1 x6_1).f3))) (fun _ hk => hk.2) (.bool false)) (fun _ hk => hk.2) (.bool false)) (fun _ hk => hk.1.2)))⟩; have n1_ : Aside0 (w2008.heap[gb163]? = some (.cells #[.int .i64 t166, .int .i64 t167, .slice (some ad171) x164002_1.length co2003] 63 (0, 0))) := ⟨(by rw [hw]; exact (by (with_reducible repeat (first | refine blk_drewN ?_ _ | refine blk_drew ?_ | refine blk_alloc ?_ _)); refine blk_far ?_ NB163_172.out _; (with_reducible repeat (first | refine blk_drewN ?_ _ | refine blk_drew ?_ | refine blk_alloc ?_ _)); refine blk_far ?_ NB163_172.out _; (with_reducible repeat (first | refine blk_drewN ?_ _ | refine blk_drew ?_ | refine blk_alloc ?_ _)); refine blk_far ?_ NB163_172.out _; (with_reducible repeat (first | refine blk_drewN ?_ _ | refine blk_drew ?_ | refine blk_alloc ?_ _)); refine blk_far ?_ NB163_172.out _; (with_reducible repeat (first | refine blk_drewN ?_ _ | refine blk_drew ?_ | refine blk_alloc ?_ _)); refine blk_far ?_ NB163_172.out _; (with_reducible repeat (first | refine blk_drewN ?_ _ | refine blk_drew ?_ | refine blk_alloc ?_ _)); refine blk_far ?_ NB163_172.out _; (with_reducible repeat (first | refine blk_drewN ?_ _ | refine blk_drew ?_ | refine blk_alloc ?_ _)); exact BK163.out))⟩; have n2_ : Aside0 (w2008.heap[gb164]? = some (.cells #[.int .i64 0, .int .i64 0, .slice none 0 0] 63 (0, 0))) := ⟨(by rw [hw]; exact (by (with_reducible repeat (first | refine blk_drewN ?_ _ | refine blk_drew ?_ | refine blk_alloc ?_ _)); refine blk_far ?_ NB164_172.out _; (with_reducible repeat (first | refine blk_drewN ?_ _ | refine blk_drew ?_ | refine blk_alloc ?_ _)); refine blk_far ?_ NB164_172.out _; (with_reducible repeat (first | refine blk_drewN ?_ _ | refine blk_drew ?_ | refine blk_alloc ?_ _)); refine blk_far ?_ NB164_172.out _; (with_reducible repeat (first | refine blk_drewN ?_ _ | refine blk_drew ?_ | refine blk_alloc ?_ _)); refine blk_far ?_ NB164_172.out _; (with_reducible repeat (first | refine blk_drewN ?_ _ | refine blk_drew ?_ | refine blk_alloc ?_ _)); refine blk_far ?_ NB164_172.out _; (with_reducible repeat (first | refine blk_drewN ?_ _ | refine blk_drew ?_ | refine blk_alloc ?_ _)); refine blk_far ?_ NB164_172.out _; (with_reducible repeat (first | refine blk_drewN ?_ _ | refine blk_drew ?_ | refine blk_alloc ?_ _)); exact BK164.out))⟩; have n3_ : Aside0 (w2008.heap[gb172]? = some (.cells #[.int .i64 ((rd_T85 x164002_1 x6_1).f0), .int .i64 ((rd_T85 x164002_1 x6_1).f1), .int .i64 ((rd_T85 x164002_1 x6_1).f2), .int .i64 ((rd_T85 x164002_1 x6_1).f3), .bool false, .bool false] 85 (0, 0))) := ⟨(by rw [hw]; exact (by (with_reducible repeat (first | refine blk_drewN ?_ _ | refine blk_drew ?_ | refine blk_alloc ?_ _)); refine blk_put (cs := #[.int .i64 ((rd_T85 x164002_1 x6_1).f0), .int .i64 ((rd_T85 x164002_1 x6_1).f1), .int .i64 ((rd_T85 x164002_1 x6_1).f2), .int .i64 ((rd_T85 x164002_1 x6_1).f3), .bool false, .bool false]) ?_ 5 _ rfl; (with_reducible repeat (first | refine blk_drewN ?_ _ | refine blk_drew ?_ | refine blk_alloc ?_ _)); refine blk_put (cs := #[.int .i64 ((rd_T85 x164002_1 x6_1).f0), .int .i64 ((rd_T85 x164002_1 x6_1).f1), .int .i64 ((rd_T85 x164002_1 x6_1).f2), .int .i64 ((rd_T85 x164002_1 x6_1).f3), .bool false, .bool false]) ?_ 4 _ rfl; (with_reducible repeat (first | refine blk_drewN ?_ _ | refine blk_drew ?_ | refine blk_alloc ?_ _)); refine blk_put (cs := #[.int .i64 ((rd_T85 x164002_1 x6_1).f0), .int .i64 ((rd_T85 x164002_1 x6_1).f1), .int .i64 ((rd_T85 x164002_1 x6_1).f2), .int .i64 0, .bool false, .bool false]) ?_ 3 _ rfl; (with_reducible repeat (first | refine blk_drewN ?_ _ | refine blk_drew ?_ | refine blk_alloc ?_ _)); refine blk_put (cs := #[.int .i64 ((rd_T85 x164002_1 x6_1).f0), .int .i64 ((rd_T85 x164002_1 x6_1).f1), .int .i64 0, .int .i64 0, .bool false, .bool false]) ?_ 2 _ rfl; (with_reducible repeat (first | refine blk_drewN ?_ _ | refine blk_drew ?_ | refine blk_alloc ?_ _)); refine blk_put (cs := #[.int .i64 ((rd_T85 x164002_1 x6_1).f0), .int .i64 0, .int .i64 0, .int .i64 0, .bool false, .bool false]) ?_ 1 _ rfl; (with_reducible repeat (first | refine blk_drewN ?_ _ | refine blk_drew ?_ | refine blk_alloc ?_ _)); refine blk_put (cs := #[.int .i64 0, .int .i64 0, .int .i64 0, .int .i64 0, .bool false, .bool false]) ?_ 0 _ rfl; (with_reducible repeat (first | refine blk_drewN ?_ _ | refine blk_drew ?_ | refine blk_alloc ?_ _)); exact BK172.out))⟩; have n4_ : Aside0 (Below w.heap.size w w2008) := ⟨(by rw [hw]; exact wB)⟩; clear hw; clear HO_164002; clear BK163; clear BK164; clear BK172; clear HB; have HO_164002 := n0_; have BK163 := n1_; have BK164 := n2_; have BK172 := n3_; have HB := n4_; clear n0_ n1_ n2_ n3_ n4_; obtain ⟨⟨hcz2009_0, hcz2009_1, hcz2009_2, hcz2009_3, hcz2009_4, hcz2009_5⟩, hfz2009_0, hfz2009_1, hfz2009_2, hfz2009_3, hfz2009_4, hfz2009_5⟩ := cells6 BK172.out; obtain ⟨⟨hcz2010_0, hcz2010_1, hcz2010_2⟩, hfz2010_0, hfz2010_1, hfz2010_2⟩ := cells3 BK163.out) | (go_at_call 108; (with_reducible refine (spec_l15Behind.calls k1 t166 t167 _ _ x164002_1 x6_1 t173 _ ?side1 ?side2 A1018.out).mono ?_); (case side1 => exact Ch HO_164002); (case side2 => exact (Kd.R_reads' HO_164002.out).2.1); rintro e w2011 ⟨rfl, hb⟩; have n0_ := Aside0.mk (Kd.R_below (Rh HO_164002) hb); have n1_ := Aside0.mk (blk_below (Bh BK163) hb); have n2_ := Aside0.mk (blk_below (Bh BK164) hb); have n3_ := Aside0.mk (blk_below (Bh BK172) hb); have n4_ := Aside0.mk (below_step wB hb); clear HO_164002; clear BK163; clear BK164; clear BK172; clear HB; have HO_164002 := n0_; have BK163 := n1_; have BK164 := n2_; have BK172 := n3_; have HB := n4_; clear n0_ n1_ n2_ n3_ n4_; (try clear hb); (try clear hb2); (try clear hk); (try clear hi)))
 go_roundg k1
 case measure => have := HK1.out; omega
 case rel => exact ⟨(x5_1), (wrap64 (x6_1 + 1)), (x164002_1), (.slice (some ad171) x164002_1.length co2003), (by first | rfl | (simp; done) | (simp [*]; done)), (by first | rfl | (simp; done) | (simp [*]; done)), H', ⟨by have := HK1.out; omega⟩, ⟨Kd.R_mono (Rh HO_164002) (fun _ hk => trivial)⟩, ⟨Bh BK163⟩, ⟨Bh BK164⟩, ⟨wB⟩⟩
 }
 {
 cases e171
 replace p171 := eq_true p171
 replace q171 := eq_true q171
 go_wp2_with (first | ((with_reducible refine gate_dst (N := 7) rfl ?_); refine box_event ?hg (N := 7) ?hd (cs := #[.int .i64 0, .int .i64 0, .int .i64 0, .int .i64 0, .bool false, .bool false]) (t := 85) ?hr ?_; (case hd => rfl); (case hg => rfl); (case hr => first | (go_simp; done) | (go_simp; rfl)); intro gb172 hg w2004 hbox hb; have n0_ := Aside0.mk (Kd.R_below (Kd.R_elderB (Rh HO_164002) gb172 (Nat.le_of_eq hg.symm)) hb); have n1_ := Aside0.mk (blk_below (Bh BK163) hb); have n2_ := Aside0.mk (blk_below (Bh BK164) hb); have n3_ := Aside0.mk (below_step wB hb); have n4_ := Aside0.mk (hbox); have n5_ := Aside0.mk ((by rw [hg]; exact (below_size wB) : w.heap.size ≤ gb172)); have n6_ := Aside0.mk ((by rw [hg]; exact (below_size wB) : w.heap.size ≤ gb172)); have n7_ := Aside0.mk ((by rw [hg]; exact Nat.ne_of_lt (blk_lt (Bh BK163)) : gb163 ≠ gb172)); have n8_ := Aside0.mk ((by rw [hg]; exact Nat.ne_of_gt (blk_lt (Bh BK163)) : gb172 ≠ gb163)); have n9_ := Aside0.mk ((by rw [hg]; exact Nat.ne_of_lt (blk_lt (Bh BK164)) : gb164 ≠ gb172)); have n10_ := Aside0.mk ((by rw [hg]; exact Nat.ne_of_gt (blk_lt (Bh BK164)) : gb172 ≠ gb164)); clear HO_164002; clear BK163; clear BK164; clear HB; have HO_164002 := n0_; have BK163 := n1_; have BK164 := n2_; have HB := n3_; have BK172 := n4_; have GW172 := n5_; have GE172 := n6_; have NB163_172 := n7_; have NB172_163 := n8_; have NB164_172 := n9_; have NB172_164 := n10_; clear n0_ n1_ n2_ n3_ n4_ n5_ n6_ n7_ n8_ n9_ n10_; clear hb hbox hg; have hnb2005 := NB172_163.out; have hnc2005 := NB163_172.out; have hnb2006 := NB172_164.out; have hnc2006 := NB164_172.out; obtain ⟨⟨hcz2007_0, hcz2007_1, hcz2007_2, hcz2007_3, hcz2007_4, hcz2007_5⟩, hfz2007_0, hfz2007_1, hfz2007_2, hfz2007_3, hfz2007_4, hfz2007_5⟩ := cells6 BK172.out) | ((with_reducible refine gate_store (t := 85) (p := 7) rfl ?_); refine store_event (t := 85) (p := 7) (v := ?_) (w1 := ((((((w2004.setCell ⟨gb172, 0, none⟩ (.int .i64 ((rd_T85 x164002_1 x6_1).f0))).setCell ⟨gb172, 1, none⟩ (.int .i64 ((rd_T85 x164002_1 x6_1).f1))).setCell ⟨gb172, 2, none⟩ (.int .i64 ((rd_T85 x164002_1 x6_1).f2))).setCell ⟨gb172, 3, none⟩ (.int .i64 ((rd_T85 x164002_1 x6_1).f3))).setCell ⟨gb172, 4, none⟩ (.bool ((rd_T85 x164002_1 x6_1).f4))).setCell ⟨gb172, 5, none⟩ (.bool ((rd_T85 x164002_1 x6_1).f5)))) ?hg ?ho ?hn ?hr ?_; (case ho => rfl); (case hg => rfl); (case hn => rfl); (case hr => first | (go_simp; done) | (go_simp; rfl)); intro w2008 hw; have n0_ : Aside0 (Kd.R k85 85 w2008 w.heap.size (fun k_ => k_ ≠ gb172) (.slice (some ad171) x164002_1.length co2003) x164002_1) := ⟨(by rw [hw]; exact (by (with_reducible repeat (first | apply Kd.R_alloc | apply Kd.R_drewN | apply Kd.R_drew)); exact Kd.R_mono (Kd.R_far (p := ⟨gb172, 5, none⟩) (Kd.R_far (p := ⟨gb172, 4, none⟩) (Kd.R_far (p := ⟨gb172, 3, none⟩) (Kd.R_far (p := ⟨gb172, 2, none⟩) (Kd.R_far (p := ⟨gb172, 1, none⟩) (Kd.R_far (p := ⟨gb172, 0, none⟩) (Kd.R_mono HO_164002.out (fun k_ hk => (⟨hk, hk.2⟩ : _ ∧ k_ ≠ gb172))) (fun _ hk => hk.2) (.int .i64 ((rd_T85 x164002_1 x6_1).f0))) (fun _ hk => hk.2) (.int .i64 ((rd_T85 x164002_1 x6_1).f1))) (fun _ hk => hk.2) (.int .i64 ((rd_T85 x164002_1 x6_1).f2))) (fun _ hk => hk.2) (.int .i64 ((rd_T85 x164002_1 x6_1).f3))) (fun _ hk => hk.2) (.bool ((rd_T85 x164002_1 x6_1).f4))) (fun _ hk => hk.2) (.bool ((rd_T85 x164002_1 x6_1).f5))) (fun _ hk => hk.1.2)))⟩; have n1_ : Aside0 (w2008.heap[gb163]? = some (.cells #[.int .i64 t166, .int .i64 t167, .slice (some ad171) x164002_1.length co2003] 63 (0, 0))) := ⟨(by rw [hw]; exact (by (with_reducible repeat (first | refine blk_drewN ?_ _ | refine blk_drew ?_ | refine blk_alloc ?_ _)); refine blk_far ?_ NB163_172.out _; (with_reducible repeat (first | refine blk_drewN ?_ _ | refine blk_drew ?_ | refine blk_alloc ?_ _)); refine blk_far ?_ NB163_172.out _; (with_reducible repeat (first | refine blk_drewN ?_ _ | refine blk_drew ?_ | refine blk_alloc ?_ _)); refine blk_far ?_ NB163_172.out _; (with_reducible repeat (first | refine blk_drewN ?_ _ | refine blk_drew ?_ | refine blk_alloc ?_ _)); refine blk_far ?_ NB163_172.out _; (with_reducible repeat (first | refine blk_drewN ?_ _ | refine blk_drew ?_ | refine blk_alloc ?_ _)); refine blk_far ?_ NB163_172.out _; (with_reducible repeat (first | refine blk_drewN ?_ _ | refine blk_drew ?_ | refine blk_alloc ?_ _)); refine blk_far ?_ NB163_172.out _; (with_reducible repeat (first | refine blk_drewN ?_ _ | refine blk_drew ?_ | refine blk_alloc ?_ _)); exact BK163.out))⟩; have n2_ : Aside0 (w2008.heap[gb164]? = some (.cells #[.int .i64 0, .int .i64 0, .slice none 0 0] 63 (0, 0))) := ⟨(by rw [hw]; exact (by (with_reducible repeat (first | refine blk_drewN ?_ _ | refine blk_drew ?_ | refine blk_alloc ?_ _)); refine blk_far ?_ NB164_172.out _; (with_reducible repeat (first | refine blk_drewN ?_ _ | refine blk_drew ?_ | refine blk_alloc ?_ _)); refine blk_far ?_ NB164_172.out _; (with_reducible repeat (first | refine blk_drewN ?_ _ | refine blk_drew ?_ | refine blk_alloc ?_ _)); refine blk_far ?_ NB164_172.out _; (with_reducible repeat (first | refine blk_drewN ?_ _ | refine blk_drew ?_ | refine blk_alloc ?_ _)); refine blk_far ?_ NB164_172.out _; (with_reducible repeat (first | refine blk_drewN ?_ _ | refine blk_drew ?_ | refine blk_alloc ?_ _)); refine blk_far ?_ NB164_172.out _; (with_reducible repeat (first | refine blk_drewN ?_ _ | refine blk_drew ?_ | refine blk_alloc ?_ _)); refine blk_far ?_ NB164_172.out _; (with_reducible repeat (first | refine blk_drewN ?_ _ | refine blk_drew ?_ | refine blk_alloc ?_ _)); exact BK164.out))⟩; have n3_ : Aside0 (w2008.heap[gb172]? = some (.cells #[.int .i64 ((rd_T85 x164002_1 x6_1).f0), .int .i64 ((rd_T85 x164002_1 x6_1).f1), .int .i64 ((rd_T85 x164002_1 x6_1).f2), .int .i64 ((rd_T85 x164002_1 x6_1).f3), .bool ((rd_T85 x164002_1 x6_1).f4), .bool ((rd_T85 x164002_1 x6_1).f5)] 85 (0, 0))) := ⟨(by rw [hw]; exact (by (with_reducible repeat (first | refine blk_drewN ?_ _ | refine blk_drew ?_ | refine blk_alloc ?_ _)); refine blk_put (cs := #[.int .i64 ((rd_T85 x164002_1 x6_1).f0), .int .i64 ((rd_T85 x164002_1 x6_1).f1), .int .i64 ((rd_T85 x164002_1 x6_1).f2), .int .i64 ((rd_T85 x164002_1 x6_1).f3), .bool ((rd_T85 x164002_1 x6_1).f4), .bool false]) ?_ 5 _ rfl; (with_reducible repeat (first | refine blk_drewN ?_ _ | refine blk_drew ?_ | refine blk_alloc ?_ _)); refine blk_put (cs := #[.int .i64 ((rd_T85 x164002_1 x6_1).f0), .int .i64 ((rd_T85 x164002_1 x6_1).f1), .int .i64 ((rd_T85 x164002_1 x6_1).f2), .int .i64 ((rd_T85 x164002_1 x6_1).f3), .bool false, .bool false]) ?_ 4 _ rfl; (with_reducible repeat (first | refine blk_drewN ?_ _ | refine blk_drew ?_ | refine blk_alloc ?_ _)); refine blk_put (cs := #[.int .i64 ((rd_T85 x164002_1 x6_1).f0), .int .i64 ((rd_T85 x164002_1 x6_1).f1), .int .i64 ((rd_T85 x164002_1 x6_1).f2), .int .i64 0, .bool false, .bool false]) ?_ 3 _ rfl; (with_reducible repeat (first | refine blk_drewN ?_ _ | refine blk_drew ?_ | refine blk_alloc ?_ _)); refine blk_put (cs := #[.int .i64 ((rd_T85 x164002_1 x6_1).f0), .int .i64 ((rd_T85 x164002_1 x6_1).f1), .int .i64 0, .int .i64 0, .bool false, .bool false]) ?_ 2 _ rfl; (with_reducible repeat (first | refine blk_drewN ?_ _ | refine blk_drew ?_ | refine blk_alloc ?_ _)); refine blk_put (cs := #[.int .i64 ((rd_T85 x164002_1 x6_1).f0), .int .i64 0, .int .i64 0, .int .i64 0, .bool false, .bool false]) ?_ 1 _ rfl; (with_reducible repeat (first | refine blk_drewN ?_ _ | refine blk_drew ?_ | refine blk_alloc ?_ _)); refine blk_put (cs := #[.int .i64 0, .int .i64 0, .int .i64 0, .int .i64 0, .bool false, .bool false]) ?_ 0 _ rfl; (with_reducible repeat (first | refine blk_drewN ?_ _ | refine blk_drew ?_ | refine blk_alloc ?_ _)); exact BK172.out))⟩; have n4_ : Aside0 (Below w.heap.size w w2008) := ⟨(by rw [hw]; exact wB)⟩; clear hw; clear HO_164002; clear BK163; clear BK164; clear BK172; clear HB; have HO_164002 := n0_; have BK163 := n1_; have BK164 := n2_; have BK172 := n3_; have HB := n4_; clear n0_ n1_ n2_ n3_ n4_; obtain ⟨⟨hcz2009_0, hcz2009_1, hcz2009_2, hcz2009_3, hcz2009_4, hcz2009_5⟩, hfz2009_0, hfz2009_1, hfz2009_2, hfz2009_3, hfz2009_4, hfz2009_5⟩ := cells6 BK172.out))
 go_roundg k1
 case measure => have := HK1.out; omega
 case rel => exact ⟨(x5_1), (wrap64 (x6_1 + 1)), (x164002_1), (.slice (some ad171) x164002_1.length co2003), (by first | rfl | (simp; done) | (simp [*]; done)), (by first | rfl | (simp; done) | (simp [*]; done)), H', ⟨by have := HK1.out; omega⟩, ⟨Kd.R_mono (Rh HO_164002) (fun _ hk => trivial)⟩, ⟨Bh BK163⟩, ⟨Bh BK164⟩, ⟨wB⟩⟩
 }
 {
 obtain ⟨⟨hcz2004_0, hcz2004_1, hcz2004_2⟩, hfz2004_0, hfz2004_1, hfz2004_2⟩ := cells3 BK164.out
 go_wp2_with (first | ((with_reducible refine gate_store (t := 63) (p := 2) rfl ?_); refine store_event (t := 63) (p := 2) (v := ?_) (w1 := (((wr.setCell ⟨gb164, 0, none⟩ (.int .i64 t166)).setCell ⟨gb164, 1, none⟩ (.int .i64 t167)).setCell ⟨gb164, 2, none⟩ (.slice Ao2003 x164002_1.length co2003))) ?hg ?ho ?hn ?hr ?_; (case ho => rfl); (case hg => rfl); (case hn => rfl); (case hr => first | (go_simp; done) | (go_simp; rfl)); intro w2005 hw; have n0_ : Aside0 (Kd.R k85 85 w2005 w.heap.size (fun _ => True) (.slice Ao2003 x164002_1.length co2003) x164002_1) := ⟨(by rw [hw]; exact (by (with_reducible repeat (first | apply Kd.R_alloc | apply Kd.R_drewN | apply Kd.R_drew)); exact Kd.R_mono (Kd.R_far (p := ⟨gb164, 2, none⟩) (Kd.R_far (p := ⟨gb164, 1, none⟩) (Kd.R_far (p := ⟨gb164, 0, none⟩) (Kd.R_types HO_164002.out BK164.out (by decide)) (fun _ hk => hk.2) (.int .i64 t166)) (fun _ hk => hk.2) (.int .i64 t167)) (fun _ hk => hk.2) (.slice Ao2003 x164002_1.length co2003)) (fun _ hk => trivial)))⟩; have n1_ : Aside0 (w2005.heap[gb163]? = some (.cells #[.int .i64 t166, .int .i64 t167, .slice Ao2003 x164002_1.length co2003] 63 (0, 0))) := ⟨(by rw [hw]; exact (by (with_reducible repeat (first | refine blk_drewN ?_ _ | refine blk_drew ?_ | refine blk_alloc ?_ _)); refine blk_far ?_ NB163_164.out _; (with_reducible repeat (first | refine blk_drewN ?_ _ | refine blk_drew ?_ | refine blk_alloc ?_ _)); refine blk_far ?_ NB163_164.out _; (with_reducible repeat (first | refine blk_drewN ?_ _ | refine blk_drew ?_ | refine blk_alloc ?_ _)); refine blk_far ?_ NB163_164.out _; (with_reducible repeat (first | refine blk_drewN ?_ _ | refine blk_drew ?_ | refine blk_alloc ?_ _)); exact BK163.out))⟩; have n2_ : Aside0 (w2005.heap[gb164]? = some (.cells #[.int .i64 t166, .int .i64 t167, .slice Ao2003 x164002_1.length co2003] 63 (0, 0))) := ⟨(by rw [hw]; exact (by (with_reducible repeat (first | refine blk_drewN ?_ _ | refine blk_drew ?_ | refine blk_alloc ?_ _)); refine blk_put (cs := #[.int .i64 t166, .int .i64 t167, .slice none 0 0]) ?_ 2 _ rfl; (with_reducible repeat (first | refine blk_drewN ?_ _ | refine blk_drew ?_ | refine blk_alloc ?_ _)); refine blk_put (cs := #[.int .i64 t166, .int .i64 0, .slice none 0 0]) ?_ 1 _ rfl; (with_reducible repeat (first | refine blk_drewN ?_ _ | refine blk_drew ?_ | refine blk_alloc ?_ _)); refine blk_put (cs := #[.int .i64 0, .int .i64 0, .slice none 0 0]) ?_ 0 _ rfl; (with_reducible repeat (first | refine blk_drewN ?_ _ | refine blk_drew ?_ | refine blk_alloc ?_ _)); exact BK164.out))⟩; have n3_ : Aside0 (Below w.heap.size w w2005) := ⟨(by rw [hw]; exact wB)⟩; clear hw; clear HO_164002; clear BK163; clear BK164; clear HB; have HO_164002 := n0_; have BK163 := n1_; have BK164 := n2_; have HB := n3_; clear n0_ n1_ n2_ n3_))
 refine bodyPost_ret (results_ctt rfl _ _ gb164 63 #[.int .i64 t166, .int .i64 t167, .slice Ao2003 x164002_1.length co2003] (0, 0) _ rfl (Bh BK164) Try.underlying63 rfl (by kernel_rfl)) rfl ?_
 exact ⟨_, by first | rfl | (simp [errW_none, errW_some] <;> rfl) | (simp [*, errW_none, errW_some] <;> rfl), by (with_reducible repeat (first | apply Kd.R_alloc | apply Kd.R_drewN | apply Kd.R_drew)); exact HO_164002.out, wB⟩
 }
 }
 )
 }
 {
 replace c3 := Bool.eq_false_iff.mpr c3
 subst c3
 have H1 : (some (0, 0, ([] : List (S85)), 0, 1)) = some (r1, r2, r3, r4, r5) := by rw [if_neg (show ¬ (false = true) by decide)] at H; exact H
 clear H
 have H := H1
 clear H1
 simp only [Option.some.injEq, Prod.mk.injEq] at H
 obtain ⟨rfl, rfl, rfl, rfl, rfl⟩ := H
 go_enter Try.func47, Try.ntmps47
 go_wp2_with (first | ((with_reducible refine gate_dst (N := 1) rfl ?_); refine box_event ?hg (N := 1) ?hd (cs := #[.int .i64 a0_0, .int .i64 a0_1, .slice A0_2 l0_2.length c0_2]) (t := 63) ?hr ?_; (case hd => rfl); (case hg => rfl); (case hr => first | (go_simp; done) | (go_simp; rfl)); intro gb163 hg w1001 hbox hb; have n0_ := Aside0.mk (below_step wB hb); have n1_ := Aside0.mk (hbox); have n2_ := Aside0.mk ((by rw [hg]; exact (below_size wB) : w.heap.size ≤ gb163)); have n3_ := Aside0.mk ((by rw [hg]; exact (below_size wB) : w.heap.size ≤ gb163)); clear HB; have HB := n0_; have BK163 := n1_; have GW163 := n2_; have GE163 := n3_; clear n0_ n1_ n2_ n3_; clear hb hbox hg) | ((with_reducible refine gate_dst (N := 2) rfl ?_); refine box_event ?hg (N := 2) ?hd (cs := #[.int .i64 0, .int .i64 0, .slice none 0 0]) (t := 63) ?hr ?_; (case hd => rfl); (case hg => rfl); (case hr => first | (go_simp; done) | (go_simp; rfl)); intro gb164 hg w1002 hbox hb; have n0_ := Aside0.mk (blk_below (Bh BK163) hb); have n1_ := Aside0.mk (below_step wB hb); have n2_ := Aside0.mk (hbox); have n3_ := Aside0.mk ((by rw [hg]; exact (below_size wB) : w.heap.size ≤ gb164)); have n4_ := Aside0.mk ((by rw [hg]; exact (below_size wB) : w.heap.size ≤ gb164)); have n5_ := Aside0.mk ((by rw [hg]; exact Nat.ne_of_lt (blk_lt (Bh BK163)) : gb163 ≠ gb164)); have n6_ := Aside0.mk ((by rw [hg]; exact Nat.ne_of_gt (blk_lt (Bh BK163)) : gb164 ≠ gb163)); clear BK163; clear HB; have BK163 := n0_; have HB := n1_; have BK164 := n2_; have GW164 := n3_; have GE164 := n4_; have NB163_164 := n5_; have NB164_163 := n6_; clear n0_ n1_ n2_ n3_ n4_ n5_ n6_; clear hb hbox hg; have hnb1003 := NB163_164.out; have hnc1003 := NB164_163.out; obtain ⟨⟨hcz1004_0, hcz1004_1, hcz1004_2⟩, hfz1004_0, hfz1004_1, hfz1004_2⟩ := cells3 BK163.out) | ((with_reducible refine gate_callee (f := 83) rfl ?_); refine goesL_ (some 9) rfl rfl Try.func83 (by kernel_rfl) rfl #[.agg #[.int .i64 a0_0, .int .i64 a0_1, .slice A0_2 l0_2.length c0_2]] rfl wT ?_; (with_reducible refine (spec_l15OK.calls k a0_0 a0_1 _ _ l0_2 false _ ?side1 ?side2 A2.out).mono ?_); (case side1 => exact Kd.C_below HR0_2.out wB); (case side2 => exact HC0_2.out); rintro e w1005 ⟨rfl, hb⟩; refine ⟨_, rfl, ?_⟩; have n0_ := Aside0.mk (blk_below (Bh BK163) hb); have n1_ := Aside0.mk (blk_below (Bh BK164) hb); have n2_ := Aside0.mk (below_step wB hb); clear BK163; clear BK164; clear HB; have BK163 := n0_; have BK164 := n1_; have HB := n2_; clear n0_ n1_ n2_; (try clear hb); (try clear hb2); (try clear hk); (try clear hi); obtain ⟨⟨hcz1006_0, hcz1006_1, hcz1006_2⟩, hfz1006_0, hfz1006_1, hfz1006_2⟩ := cells3 BK164.out) | ((with_reducible refine gate_store (t := 63) (p := 2) rfl ?_); refine store_event (t := 63) (p := 2) (v := ?_) (w1 := (((w1005.setCell ⟨gb164, 0, none⟩ (.int .i64 0)).setCell ⟨gb164, 1, none⟩ (.int .i64 0)).setCell ⟨gb164, 2, none⟩ (.slice none 0 0))) ?hg ?ho ?hn ?hr ?_; (case ho => rfl); (case hg => rfl); (case hn => rfl); (case hr => first | (go_simp; done) | (go_simp; rfl)); intro w1007 hw; have n0_ : Aside0 (w1007.heap[gb163]? = some (.cells #[.int .i64 a0_0, .int .i64 a0_1, .slice A0_2 l0_2.length c0_2] 63 (0, 0))) := ⟨(by rw [hw]; exact (by (with_reducible repeat (first | refine blk_drewN ?_ _ | refine blk_drew ?_ | refine blk_alloc ?_ _)); refine blk_far ?_ NB163_164.out _; (with_reducible repeat (first | refine blk_drewN ?_ _ | refine blk_drew ?_ | refine blk_alloc ?_ _)); refine blk_far ?_ NB163_164.out _; (with_reducible repeat (first | refine blk_drewN ?_ _ | refine blk_drew ?_ | refine blk_alloc ?_ _)); refine blk_far ?_ NB163_164.out _; (with_reducible repeat (first | refine blk_drewN ?_ _ | refine blk_drew ?_ | refine blk_alloc ?_ _)); exact BK163.out))⟩; have n1_ : Aside0 (w1007.heap[gb164]? = some (.cells #[.int .i64 0, .int .i64 0, .slice none 0 0] 63 (0, 0))) := ⟨(by rw [hw]; exact (by (with_reducible repeat (first | refine blk_drewN ?_ _ | refine blk_drew ?_ | refine blk_alloc ?_ _)); refine blk_put (cs := #[.int .i64 0, .int .i64 0, .slice none 0 0]) ?_ 2 _ rfl; (with_reducible repeat (first | refine blk_drewN ?_ _ | refine blk_drew ?_ | refine blk_alloc ?_ _)); refine blk_put (cs := #[.int .i64 0, .int .i64 0, .slice none 0 0]) ?_ 1 _ rfl; (with_reducible repeat (first | refine blk_drewN ?_ _ | refine blk_drew ?_ | refine blk_alloc ?_ _)); refine blk_put (cs := #[.int .i64 0, .int .i64 0, .slice none 0 0]) ?_ 0 _ rfl; (with_reducible repeat (first | refine blk_drewN ?_ _ | refine blk_drew ?_ | refine blk_alloc ?_ _)); exact BK164.out))⟩; have n2_ : Aside0 (Below w.heap.size w w1007) := ⟨(by rw [hw]; exact wB)⟩; clear hw; clear BK163; clear BK164; clear HB; have BK163 := n0_; have BK164 := n1_; have HB := n2_; clear n0_ n1_ n2_))
 refine bodyPost_ret (results_ctt rfl _ _ gb164 63 #[.int .i64 0, .int .i64 0, .slice none 0 0] (0, 0) _ rfl (Bh BK164) Try.underlying63 rfl (by kernel_rfl)) rfl ?_
 exact ⟨_, by first | rfl | (simp [errW_none, errW_some] <;> rfl) | (simp [*, errW_none, errW_some] <;> rfl), by first | exact Kd.R_nil _ _ _ _ _ | exact Kd.N_nil _ _ _ _ _ | exact Kd.V_nil _ _ _ _ _ | exact Kd.Q_nil _ _ _ _ _ | exact Kd.S_nil _ _ _ _ _, wB⟩
 }

/-! ### impl_okBoard: function 86 -/
mutual
def impl_okBoard.j0 : Nat → Bool → Int → Int → List (S85) → Option (Bool)
  | 0, _, _, _, _ => none
  | k + 1, x26, x176000, x176001, x176002 => if x26 = true then (some false) else (impl_okBoard.l0 k x176000 x176002 (x176002.length : Int) 0 x176000 x176001 x176002)
def impl_okBoard.l0 : Nat → Int → List (S85) → Int → Int → Int → Int → List (S85) → Option (Bool)
  | 0, _, _, _, _, _, _, _ => none
  | k + 1, x3, x30, x31, x32, x176000, x176001, x176002 => if x32 < x31 then (if 0 ≤ x32 then (if x32 < (x30.length : Int) then (if ((rd_T85 x30 x32).f0) = x3 then (if ((rd_T85 x30 x32).f1) ≤ ((rd_T85 x30 x32).f0) then (some false) else (if ((rd_T85 x30 x32).f2) < 0 then (some false) else (if ((rd_T85 x30 x32).f2) > 1000000000 then (some false) else (if ((rd_T85 x30 x32).f3) < 1 then (some false) else (if ((rd_T85 x30 x32).f3) > 1000000 then (some false) else (if (rd_T85 x30 x32).f4 = true then (if (rd_T85 x30 x32).f5 = true then (some false) else (impl_okBoard.l0 k ((rd_T85 x30 x32).f1) x30 x31 (wrap64 (x32 + 1)) x176000 x176001 x176002)) else (impl_okBoard.l0 k ((rd_T85 x30 x32).f1) x30 x31 (wrap64 (x32 + 1)) x176000 x176001 x176002))))))) else (some false)) else (none)) else (none)) else (some (x3 == x176001))
end
def impl_okBoard.f (k : Nat) (a0_0 : Int) (a0_1 : Int) (l0_2 : List (S85)) : Option (Bool) := if a0_0 < 0 then (impl_okBoard.j0 k true a0_0 a0_1 l0_2) else (if a0_0 > a0_1 then (impl_okBoard.j0 k true a0_0 a0_1 l0_2) else (if a0_1 > 1099511627776 then (impl_okBoard.j0 k true a0_0 a0_1 l0_2) else (impl_okBoard.j0 k (decide ((l0_2.length : Int) > 4096)) a0_0 a0_1 l0_2)))
theorem impl_okBoard.mono_l : ∀ k, (∀ y0 y1 y2 y3, LeO (impl_okBoard.j0 k y0 y1 y2 y3) (impl_okBoard.j0 (k + 1) y0 y1 y2 y3)) ∧ (∀ y0 y1 y2 y3 y4 y5 y6, LeO (impl_okBoard.l0 k y0 y1 y2 y3 y4 y5 y6) (impl_okBoard.l0 (k + 1) y0 y1 y2 y3 y4 y5 y6))
  | 0 => ⟨fun _ _ _ _ r h => by simp [impl_okBoard.j0] at h, fun _ _ _ _ _ _ _ r h => by simp [impl_okBoard.l0] at h⟩
  | k + 1 => by
    obtain ⟨ih0, ih1⟩ := impl_okBoard.mono_l k
    refine ⟨?_, ?_⟩
    · intro y0 y1 y2 y3
      unfold impl_okBoard.j0
      repeat' first
      | (with_reducible exact ih0 _ _ _ _)
      | (with_reducible exact ih1 _ _ _ _ _ _ _)
      | (with_reducible exact LeO.refl _)
      | (with_reducible exact LeO.none _)
      | (with_reducible refine LeO.ite ?_ ?_)
      | (with_reducible refine LeO.bind ?_ (fun _ => ?_))
      | exact ih0 _ _ _ _
      | exact ih1 _ _ _ _ _ _ _
      | exact LeO.none _
      | refine LeO.ite ?_ ?_
      | refine LeO.bind ?_ (fun _ => ?_)
    · intro y0 y1 y2 y3 y4 y5 y6
      unfold impl_okBoard.l0
      repeat' first
      | (with_reducible exact ih0 _ _ _ _)
      | (with_reducible exact ih1 _ _ _ _ _ _ _)
      | (with_reducible exact LeO.refl _)
      | (with_reducible exact LeO.none _)
      | (with_reducible refine LeO.ite ?_ ?_)
      | (with_reducible refine LeO.bind ?_ (fun _ => ?_))
      | exact ih0 _ _ _ _
      | exact ih1 _ _ _ _ _ _ _
      | exact LeO.none _
      | refine LeO.ite ?_ ?_
      | refine LeO.bind ?_ (fun _ => ?_)
theorem impl_okBoard.mono : ∀ a0 a1 a2 k, LeO (impl_okBoard.f k a0 a1 a2) (impl_okBoard.f (k + 1) a0 a1 a2) := by
 intro a0 a1 a2 k
 obtain ⟨ih0, ih1⟩ := impl_okBoard.mono_l k
 unfold impl_okBoard.f
 repeat' first
     | (with_reducible exact ih0 _ _ _ _)
     | (with_reducible exact ih1 _ _ _ _ _ _ _)
     | (with_reducible exact LeO.refl _)
     | (with_reducible exact LeO.none _)
     | (with_reducible refine LeO.ite ?_ ?_)
     | (with_reducible refine LeO.bind ?_ (fun _ => ?_))
     | exact ih0 _ _ _ _
     | exact ih1 _ _ _ _ _ _ _
     | exact LeO.none _
     | refine LeO.ite ?_ ?_
     | refine LeO.bind ?_ (fun _ => ?_)
set_option maxHeartbeats 60000000 in
set_option maxRecDepth 100000 in
theorem impl_okBoard.calls (k : Nat) (a0_0 : Int) (a0_1 : Int) (A0_2 : Option Addr) (c0_2 : Nat) (l0_2 : List (S85)) (r : Bool) (w : World) (hr0_2 : Kd.C k85 w A0_2 l0_2.length l0_2) (hc0_2 : l0_2.length ≤ c0_2) (h : impl_okBoard.f k a0_0 a0_1 l0_2 = some r) :
 Calls Try.prog 86 #[.agg #[.int .i64 a0_0, .int .i64 a0_1, .slice A0_2 l0_2.length c0_2]] w fun e w' => e = .returned (.bool r) ∧ Below w.heap.size w w' := by
 have hu63 := Try.underlying63
 have hu85 := Try.underlying85
 have HR0_2 := Aside0.mk hr0_2
 have HC0_2 := Aside0.mk hc0_2
 clear hr0_2 hc0_2
 have HB := Aside0.mk (Below.refl w.heap.size w)
 have H : (if a0_0 < 0 then (impl_okBoard.j0 k true a0_0 a0_1 l0_2) else (if a0_0 > a0_1 then (impl_okBoard.j0 k true a0_0 a0_1 l0_2) else (if a0_1 > 1099511627776 then (impl_okBoard.j0 k true a0_0 a0_1 l0_2) else (impl_okBoard.j0 k (decide ((l0_2.length : Int) > 4096)) a0_0 a0_1 l0_2)))) = some r := h
 clear h
 have HC2 := Aside0.mk H
 clear H
 go_enter Try.func86, Try.ntmps86
 go_upto_region 1 with (first | ((with_reducible refine gate_dst (N := 1) rfl ?_); (try (refine gate_guard (by rfl) ?_; dsimp only)); refine box_event ?hg (N := 1) ?hd (cs := #[.int .i64 a0_0, .int .i64 a0_1, .slice A0_2 l0_2.length c0_2]) (t := 63) ?hr ?_; (case hd => rfl); (case hg => rfl); (case hr => first | (go_simp; done) | (go_simp; rfl)); intro gb175 hg w1001 hbox hb; have n0_ := Aside0.mk (below_step wB hb); have n1_ := Aside0.mk (hbox); have n2_ := Aside0.mk ((by rw [hg]; exact (below_size wB) : w.heap.size ≤ gb175)); have n3_ := Aside0.mk ((by rw [hg]; exact (below_size wB) : w.heap.size ≤ gb175)); clear HB; have HB := n0_; have BK175 := n1_; have GW175 := n2_; have GE175 := n3_; clear n0_ n1_ n2_ n3_; clear hb hbox hg))
 (try simp only [Act.put, List.setIfInBounds_toArray, List.set_cons_zero, List.set_cons_succ])
 go_cut [26] (fun v26 wc => ∃ (kq : Nat) (x26_1 : Bool), v26 = .bool x26_1 ∧ Aside0 (impl_okBoard.j0 kq x26_1 a0_0 a0_1 l0_2 = some r) ∧ Aside0 (kq ≤ k) ∧ Aside0 (wc.heap[gb175]? = some (.cells #[.int .i64 a0_0, .int .i64 a0_1, (.slice A0_2 l0_2.length c0_2)] 63 (0, 0))) ∧ Aside0 (Below w.heap.size w wc))
 case first => (
 have H := HC2.out
 clear HC2
 by_cases c1002 : a0_0 < 0
 rw [if_pos c1002] at H
 have c1002b0 : decide (a0_0 < 0) = true := decide_eq_true c1002
 clear c1002
 (first | rw [c1002b0] | (simp only [i64_w, i32_w]; rw [c1002b0]) | skip)
 have H' := Aside0.mk H
 clear H
 rotate_left
 rw [if_neg c1002] at H
 have c1002b0 : decide (a0_0 < 0) = false := decide_eq_false c1002
 clear c1002
 (first | rw [c1002b0] | (simp only [i64_w, i32_w]; rw [c1002b0]) | skip)
 by_cases c1003 : a0_0 > a0_1
 rw [if_pos c1003] at H
 have c1003b0 : decide (a0_1 < a0_0) = true := decide_eq_true c1003
 clear c1003
 have H' := Aside0.mk H
 clear H
 rotate_left
 rw [if_neg c1003] at H
 have c1003b0 : decide (a0_1 < a0_0) = false := decide_eq_false c1003
 clear c1003
 by_cases c1004 : a0_1 > 1099511627776
 rw [if_pos c1004] at H
 have c1004b0 : decide (1099511627776 < a0_1) = true := decide_eq_true c1004
 clear c1004
 have H' := Aside0.mk H
 clear H
 rotate_left
 rw [if_neg c1004] at H
 have c1004b0 : decide (1099511627776 < a0_1) = false := decide_eq_false c1004
 clear c1004
 have H' := Aside0.mk H
 clear H
 rotate_left
 all_goals (
 obtain ⟨⟨hcz2001_0, hcz2001_1, hcz2001_2⟩, hfz2001_0, hfz2001_1, hfz2001_2⟩ := cells3 BK175.out
 go_wp2
 all_goals (try (rename_i h_; exfalso; cases h_; done))
 all_goals (try (rename_i h_ h2_; exfalso; cases h_; done))
 go_meet
 )
 iterate 3 (
 focus (
 case rel => exact ⟨_, (true), (by first | rfl | (simp; done) | (simp [*]; done)), H', ⟨by first | omega | exact Nat.le_refl _⟩, ⟨Bh BK175⟩, ⟨wB⟩⟩
 )
 )
 {
 case rel => exact ⟨_, (decide ((l0_2.length : Int) > 4096)), (by first | rfl | (simp; done) | (simp [*]; done)), H', ⟨by first | omega | exact Nat.le_refl _⟩, ⟨Bh BK175⟩, ⟨wB⟩⟩
 }
 )
 case rest => (
 clear HC2
 try clear c0
 try clear c1002
 try clear c1002b0
 try clear c1003
 try clear c1003b0
 try clear c1004
 try clear c1004b0
 try clear hcz2001_0 hcz2001_1 hcz2001_2 hfz2001_0 hfz2001_1 hfz2001_2
 obtain ⟨kq, x26_1, rfl, HA, HJ1, BK175, HB⟩ := hcut
 cases kq with
 | zero => exact absurd HA.out (by simp [impl_okBoard.j0])
 | succ kj1 => {
 have H := HA.out
 clear HA
 simp only [impl_okBoard.j0] at H
 by_cases c1005 : x26_1 = true
 {
 subst c1005
 have H1 : (some false) = some r := by rw [if_pos rfl] at H; exact H
 clear H
 have H := H1
 clear H1
 obtain rfl := Option.some.inj H
 go_wp2
 all_goals (try (rename_i h_; exfalso; cases h_; done))
 all_goals (try (rename_i h_ h2_; exfalso; cases h_; done))
 go_ret
 exact ⟨by first | rfl | (simp [errW_none, errW_some] <;> rfl) | (simp [*, errW_none, errW_some] <;> rfl), wB⟩
 }
 {
 replace c1005 := Bool.eq_false_iff.mpr c1005
 subst c1005
 have H1 : (impl_okBoard.l0 kj1 a0_0 l0_2 (l0_2.length : Int) 0 a0_0 a0_1 l0_2) = some r := by rw [if_neg (show ¬ (false = true) by decide)] at H; exact H
 clear H
 have H := H1
 clear H1
 have H' := Aside0.mk H
 clear H
 obtain ⟨⟨hcz2001_0, hcz2001_1, hcz2001_2⟩, hfz2001_0, hfz2001_1, hfz2001_2⟩ := cells3 BK175.out
 go_wp2
 all_goals (try (rename_i h_; exfalso; cases h_; done))
 all_goals (try (rename_i h_ h2_; exfalso; cases h_; done))
 go_loopg [3, 32] kj1 (fun kq v3 v32 w' => ∃ (x3_2 : Int) (x32_2 : Int), v3 = .int .i64 x3_2 ∧ v32 = .int .i64 x32_2 ∧ Aside0 (impl_okBoard.l0 kq x3_2 l0_2 (l0_2.length : Int) x32_2 a0_0 a0_1 l0_2 = some r) ∧ Aside0 (kq ≤ kj1) ∧ Aside0 (w'.heap[gb175]? = some (.cells #[.int .i64 a0_0, .int .i64 a0_1, (.slice A0_2 l0_2.length c0_2)] 63 (0, 0))) ∧ Aside0 (Below w.heap.size w w'))
 case atStart => exact ⟨(a0_0), (0), (by first | rfl | (simp; done) | (simp [*]; done)), (by first | rfl | (simp; done) | (simp [*]; done)), H', ⟨Nat.le_refl _⟩, ⟨Bh BK175⟩, ⟨wB⟩⟩
 case round => (
 clear H'
 try clear c0
 try clear c1002
 try clear c1002b0
 try clear c1003
 try clear c1003b0
 try clear c1004
 try clear c1004b0
 try clear c1005
 try clear hcz2001_0 hcz2001_1 hcz2001_2 hfz2001_0 hfz2001_1 hfz2001_2
 obtain ⟨x3_2, x32_2, rfl, rfl, HA, HK2, BK175, HB⟩ := hrel
 cases gk with
 | zero => exact absurd HA.out (by simp [impl_okBoard.l0])
 | succ k2 => {
 have H := HA.out
 clear HA
 simp only [impl_okBoard.l0] at H
 by_cases c2002 : x32_2 < (l0_2.length : Int)
 rw [if_pos c2002] at H
 have c2002b0 : decide (x32_2 < (l0_2.length : Int)) = true := decide_eq_true c2002
 clear c2002
 by_cases c2003 : 0 ≤ x32_2
 rw [if_pos c2003] at H
 have c2003b0 : decide (0 ≤ x32_2) = true := decide_eq_true c2003
 clear c2003
 by_cases c2004 : x32_2 < (l0_2.length : Int)
 rw [if_pos c2004] at H
 have c2004b0 : decide (x32_2 < (l0_2.length : Int)) = true := decide_eq_true c2004
 clear c2004
 by_cases c2005 : ((rd_T85 l0_2 x32_2).f0) = x3_2
 rw [if_pos c2005] at H
 have c2005b0 : (((rd_T85 l0_2 x32_2).f0) == x3_2) = true := beq_iff_eq.mpr c2005
 have c2005b1 : (((rd_T85 l0_2 x32_2).f0) != x3_2) = false := bne_eq_false_iff_eq.mpr c2005
 clear c2005
 by_cases c2006 : ((rd_T85 l0_2 x32_2).f1) ≤ ((rd_T85 l0_2 x32_2).f0)
 rw [if_pos c2006] at H
 have c2006b0 : decide (((rd_T85 l0_2 x32_2).f1) ≤ ((rd_T85 l0_2 x32_2).f0)) = true := decide_eq_true c2006
 clear c2006
 obtain rfl := Option.some.inj H
 rotate_left
 rw [if_neg c2006] at H
 have c2006b0 : decide (((rd_T85 l0_2 x32_2).f1) ≤ ((rd_T85 l0_2 x32_2).f0)) = false := decide_eq_false c2006
 clear c2006
 by_cases c2007 : ((rd_T85 l0_2 x32_2).f2) < 0
 rw [if_pos c2007] at H
 have c2007b0 : decide (((rd_T85 l0_2 x32_2).f2) < 0) = true := decide_eq_true c2007
 clear c2007
 obtain rfl := Option.some.inj H
 rotate_left
 rw [if_neg c2007] at H
 have c2007b0 : decide (((rd_T85 l0_2 x32_2).f2) < 0) = false := decide_eq_false c2007
 clear c2007
 by_cases c2008 : ((rd_T85 l0_2 x32_2).f2) > 1000000000
 rw [if_pos c2008] at H
 have c2008b0 : decide (1000000000 < ((rd_T85 l0_2 x32_2).f2)) = true := decide_eq_true c2008
 clear c2008
 obtain rfl := Option.some.inj H
 rotate_left
 rw [if_neg c2008] at H
 have c2008b0 : decide (1000000000 < ((rd_T85 l0_2 x32_2).f2)) = false := decide_eq_false c2008
 clear c2008
 by_cases c2009 : ((rd_T85 l0_2 x32_2).f3) < 1
 rw [if_pos c2009] at H
 have c2009b0 : decide (((rd_T85 l0_2 x32_2).f3) < 1) = true := decide_eq_true c2009
 clear c2009
 obtain rfl := Option.some.inj H
 rotate_left
 rw [if_neg c2009] at H
 have c2009b0 : decide (((rd_T85 l0_2 x32_2).f3) < 1) = false := decide_eq_false c2009
 clear c2009
 by_cases c2010 : ((rd_T85 l0_2 x32_2).f3) > 1000000
 rw [if_pos c2010] at H
 have c2010b0 : decide (1000000 < ((rd_T85 l0_2 x32_2).f3)) = true := decide_eq_true c2010
 clear c2010
 obtain rfl := Option.some.inj H
 rotate_left
 rw [if_neg c2010] at H
 have c2010b0 : decide (1000000 < ((rd_T85 l0_2 x32_2).f3)) = false := decide_eq_false c2010
 clear c2010
 obtain ⟨bq2011, hbq2011⟩ : ∃ b_ : Bool, b_ = ((rd_T85 l0_2 x32_2).f4) := ⟨_, rfl⟩
 replace H : (if bq2011 = true then (if (rd_T85 l0_2 x32_2).f5 = true then (some false) else (impl_okBoard.l0 k2 ((rd_T85 l0_2 x32_2).f1) l0_2 (l0_2.length : Int) (wrap64 (x32_2 + 1)) a0_0 a0_1 l0_2)) else (impl_okBoard.l0 k2 ((rd_T85 l0_2 x32_2).f1) l0_2 (l0_2.length : Int) (wrap64 (x32_2 + 1)) a0_0 a0_1 l0_2)) = some r := by rw [← hbq2011] at H; exact H
 have Nbq2011 := Aside0.mk hbq2011
 clear hbq2011
 by_cases c2012 : bq2011 = true
 subst c2012
 have H1 : (if (rd_T85 l0_2 x32_2).f5 = true then (some false) else (impl_okBoard.l0 k2 ((rd_T85 l0_2 x32_2).f1) l0_2 (l0_2.length : Int) (wrap64 (x32_2 + 1)) a0_0 a0_1 l0_2)) = some r := by rw [if_pos rfl] at H; exact H
 clear H
 have H := H1
 clear H1
 obtain ⟨bq2013, hbq2013⟩ : ∃ b_ : Bool, b_ = ((rd_T85 l0_2 x32_2).f5) := ⟨_, rfl⟩
 replace H : (if bq2013 = true then (some false) else (impl_okBoard.l0 k2 ((rd_T85 l0_2 x32_2).f1) l0_2 (l0_2.length : Int) (wrap64 (x32_2 + 1)) a0_0 a0_1 l0_2)) = some r := by rw [← hbq2013] at H; exact H
 have Nbq2013 := Aside0.mk hbq2013
 clear hbq2013
 by_cases c2014 : bq2013 = true
 subst c2014
 have H1 : (some false) = some r := by rw [if_pos rfl] at H; exact H
 clear H
 have H := H1
 clear H1
 obtain rfl := Option.some.inj H
 have bq1_ : True := trivial
 rotate_left
 replace c2014 := Bool.eq_false_iff.mpr c2014
 subst c2014
 have H1 : (impl_okBoard.l0 k2 ((rd_T85 l0_2 x32_2).f1) l0_2 (l0_2.length : Int) (wrap64 (x32_2 + 1)) a0_0 a0_1 l0_2) = some r := by rw [if_neg (show ¬ (false = true) by decide)] at H; exact H
 clear H
 have H := H1
 clear H1
 have H' := Aside0.mk H
 clear H
 rotate_left
 replace c2012 := Bool.eq_false_iff.mpr c2012
 subst c2012
 have H1 : (impl_okBoard.l0 k2 ((rd_T85 l0_2 x32_2).f1) l0_2 (l0_2.length : Int) (wrap64 (x32_2 + 1)) a0_0 a0_1 l0_2) = some r := by rw [if_neg (show ¬ (false = true) by decide)] at H; exact H
 clear H
 have H := H1
 clear H1
 have H' := Aside0.mk H
 clear H
 rotate_left
 rw [if_neg c2005] at H
 have c2005b0 : (((rd_T85 l0_2 x32_2).f0) == x3_2) = false := beq_eq_false_iff_ne.mpr c2005
 have c2005b1 : (((rd_T85 l0_2 x32_2).f0) != x3_2) = true := bne_iff_ne.mpr c2005
 obtain rfl := Option.some.inj H
 rotate_left
 rw [if_neg c2004] at H
 exact absurd H (by simp)
 rw [if_neg c2003] at H
 exact absurd H (by simp)
 rw [if_neg c2002] at H
 have c2002b0 : decide (x32_2 < (l0_2.length : Int)) = false := decide_eq_false c2002
 clear c2002
 obtain rfl := Option.some.inj H
 rotate_left
 iterate 9 (
 focus (
 have p176 : 0 ≤ (x32_2 : Int) := of_decide_eq_true (by first | (with_reducible assumption) | assumption)
 have q176 : x32_2 < (l0_2.length : Int) := of_decide_eq_true (by first | (with_reducible assumption) | assumption)
 obtain ⟨ad176, e176, hx176_0, hx176_1, hx176_2, hx176_3, hx176_4, hx176_5⟩ := at_T85 HR0_2.out x32_2 p176 q176
 )
 rotate_left
 )
 rotate_right 9
 iterate 5 (
 focus (
 cases e176
 replace hx176_0 := (HB.out.cell (World.block_lt_of_cell? w _ hx176_0)).trans hx176_0
 replace hx176_1 := (HB.out.cell (World.block_lt_of_cell? w _ hx176_1)).trans hx176_1
 replace hx176_2 := (HB.out.cell (World.block_lt_of_cell? w _ hx176_2)).trans hx176_2
 replace hx176_3 := (HB.out.cell (World.block_lt_of_cell? w _ hx176_3)).trans hx176_3
 replace hx176_4 := (HB.out.cell (World.block_lt_of_cell? w _ hx176_4)).trans hx176_4
 replace hx176_5 := (HB.out.cell (World.block_lt_of_cell? w _ hx176_5)).trans hx176_5
 replace p176 := eq_true p176
 replace q176 := eq_true q176
 go_wp2_with (first | ((with_reducible refine gate_dst (N := 5) rfl ?_); (try (refine gate_guard (by rfl) ?_; dsimp only)); refine box_event ?hg (N := 5) ?hd (cs := #[.int .i64 0, .int .i64 0, .int .i64 0, .int .i64 0, .bool false, .bool false]) (t := 85) ?hr ?_; (case hd => rfl); (case hg => rfl); (case hr => first | (go_simp; done) | (go_simp; rfl)); intro gb177 hg w3001 hbox hb; have n0_ := Aside0.mk (blk_below (Bh BK175) hb); have n1_ := Aside0.mk (below_step wB hb); have n2_ := Aside0.mk (hbox); have n3_ := Aside0.mk ((by rw [hg]; exact (below_size wB) : w.heap.size ≤ gb177)); have n4_ := Aside0.mk ((by rw [hg]; exact (below_size wB) : w.heap.size ≤ gb177)); have n5_ := Aside0.mk ((by rw [hg]; exact Nat.ne_of_lt (blk_lt (Bh BK175)) : gb175 ≠ gb177)); have n6_ := Aside0.mk ((by rw [hg]; exact Nat.ne_of_gt (blk_lt (Bh BK175)) : gb177 ≠ gb175)); clear BK175; clear HB; have BK175 := n0_; have HB := n1_; have BK177 := n2_; have GW177 := n3_; have GE177 := n4_; have NB175_177 := n5_; have NB177_175 := n6_; clear n0_ n1_ n2_ n3_ n4_ n5_ n6_; clear hb hbox hg; have hnb3002 := NB177_175.out; have hnc3002 := NB175_177.out; obtain ⟨⟨hcz3003_0, hcz3003_1, hcz3003_2, hcz3003_3, hcz3003_4, hcz3003_5⟩, hfz3003_0, hfz3003_1, hfz3003_2, hfz3003_3, hfz3003_4, hfz3003_5⟩ := cells6 BK177.out) | ((with_reducible refine gate_store (t := 85) (p := 5) rfl ?_); refine store_event (t := 85) (p := 5) (v := ?_) (w1 := ((((((w3001.setCell ⟨gb177, 0, none⟩ (.int .i64 ((rd_T85 l0_2 x32_2).f0))).setCell ⟨gb177, 1, none⟩ (.int .i64 ((rd_T85 l0_2 x32_2).f1))).setCell ⟨gb177, 2, none⟩ (.int .i64 ((rd_T85 l0_2 x32_2).f2))).setCell ⟨gb177, 3, none⟩ (.int .i64 ((rd_T85 l0_2 x32_2).f3))).setCell ⟨gb177, 4, none⟩ (.bool ((rd_T85 l0_2 x32_2).f4))).setCell ⟨gb177, 5, none⟩ (.bool ((rd_T85 l0_2 x32_2).f5)))) ?hg ?ho ?hn ?hr ?_; (case ho => rfl); (case hg => rfl); (case hn => rfl); (case hr => first | (go_simp; done) | (go_simp; rfl)); intro w3004 hw; have n0_ : Aside0 (w3004.heap[gb175]? = some (.cells #[.int .i64 a0_0, .int .i64 a0_1, .slice (some ad176) l0_2.length c0_2] 63 (0, 0))) := ⟨(by rw [hw]; exact (by (with_reducible repeat (first | refine blk_drewN ?_ _ | refine blk_drew ?_ | refine blk_alloc ?_ _)); refine blk_far ?_ NB175_177.out _; (with_reducible repeat (first | refine blk_drewN ?_ _ | refine blk_drew ?_ | refine blk_alloc ?_ _)); refine blk_far ?_ NB175_177.out _; (with_reducible repeat (first | refine blk_drewN ?_ _ | refine blk_drew ?_ | refine blk_alloc ?_ _)); refine blk_far ?_ NB175_177.out _; (with_reducible repeat (first | refine blk_drewN ?_ _ | refine blk_drew ?_ | refine blk_alloc ?_ _)); refine blk_far ?_ NB175_177.out _; (with_reducible repeat (first | refine blk_drewN ?_ _ | refine blk_drew ?_ | refine blk_alloc ?_ _)); refine blk_far ?_ NB175_177.out _; (with_reducible repeat (first | refine blk_drewN ?_ _ | refine blk_drew ?_ | refine blk_alloc ?_ _)); refine blk_far ?_ NB175_177.out _; (with_reducible repeat (first | refine blk_drewN ?_ _ | refine blk_drew ?_ | refine blk_alloc ?_ _)); exact BK175.out))⟩; have n1_ : Aside0 (w3004.heap[gb177]? = some (.cells #[.int .i64 ((rd_T85 l0_2 x32_2).f0), .int .i64 ((rd_T85 l0_2 x32_2).f1), .int .i64 ((rd_T85 l0_2 x32_2).f2), .int .i64 ((rd_T85 l0_2 x32_2).f3), .bool ((rd_T85 l0_2 x32_2).f4), .bool ((rd_T85 l0_2 x32_2).f5)] 85 (0, 0))) := ⟨(by rw [hw]; exact (by (with_reducible repeat (first | refine blk_drewN ?_ _ | refine blk_drew ?_ | refine blk_alloc ?_ _)); refine blk_put (cs := #[.int .i64 ((rd_T85 l0_2 x32_2).f0), .int .i64 ((rd_T85 l0_2 x32_2).f1), .int .i64 ((rd_T85 l0_2 x32_2).f2), .int .i64 ((rd_T85 l0_2 x32_2).f3), .bool ((rd_T85 l0_2 x32_2).f4), .bool false]) ?_ 5 _ rfl; (with_reducible repeat (first | refine blk_drewN ?_ _ | refine blk_drew ?_ | refine blk_alloc ?_ _)); refine blk_put (cs := #[.int .i64 ((rd_T85 l0_2 x32_2).f0), .int .i64 ((rd_T85 l0_2 x32_2).f1), .int .i64 ((rd_T85 l0_2 x32_2).f2), .int .i64 ((rd_T85 l0_2 x32_2).f3), .bool false, .bool false]) ?_ 4 _ rfl; (with_reducible repeat (first | refine blk_drewN ?_ _ | refine blk_drew ?_ | refine blk_alloc ?_ _)); refine blk_put (cs := #[.int .i64 ((rd_T85 l0_2 x32_2).f0), .int .i64 ((rd_T85 l0_2 x32_2).f1), .int .i64 ((rd_T85 l0_2 x32_2).f2), .int .i64 0, .bool false, .bool false]) ?_ 3 _ rfl; (with_reducible repeat (first | refine blk_drewN ?_ _ | refine blk_drew ?_ | refine blk_alloc ?_ _)); refine blk_put (cs := #[.int .i64 ((rd_T85 l0_2 x32_2).f0), .int .i64 ((rd_T85 l0_2 x32_2).f1), .int .i64 0, .int .i64 0, .bool false, .bool false]) ?_ 2 _ rfl; (with_reducible repeat (first | refine blk_drewN ?_ _ | refine blk_drew ?_ | refine blk_alloc ?_ _)); refine blk_put (cs := #[.int .i64 ((rd_T85 l0_2 x32_2).f0), .int .i64 0, .int .i64 0, .int .i64 0, .bool false, .bool false]) ?_ 1 _ rfl; (with_reducible repeat (first | refine blk_drewN ?_ _ | refine blk_drew ?_ | refine blk_alloc ?_ _)); refine blk_put (cs := #[.int .i64 0, .int .i64 0, .int .i64 0, .int .i64 0, .bool false, .bool false]) ?_ 0 _ rfl; (with_reducible repeat (first | refine blk_drewN ?_ _ | refine blk_drew ?_ | refine blk_alloc ?_ _)); exact BK177.out))⟩; have n2_ : Aside0 (Below w.heap.size w w3004) := ⟨(by rw [hw]; exact wB)⟩; clear hw; clear BK175; clear BK177; clear HB; have BK175 := n0_; have BK177 := n1_; have HB := n2_; clear n0_ n1_ n2_; obtain ⟨⟨hcz3005_0, hcz3005_1, hcz3005_2, hcz3005_3, hcz3005_4, hcz3005_5⟩, hfz3005_0, hfz3005_1, hfz3005_2, hfz3005_3, hfz3005_4, hfz3005_5⟩ := cells6 BK177.out))
 all_goals (try (rename_i h_; exfalso; cases h_; done))
 all_goals (try (rename_i h_ h2_; exfalso; cases h_; done))
 go_ret
 exact ⟨by first | rfl | (simp [errW_none, errW_some] <;> rfl) | (simp [*, errW_none, errW_some] <;> rfl), wB⟩
 )
 )
 iterate 3 (
 focus (
 (try rw [← Nbq2011.out] at hx176_4)
 )
 rotate_left
 )
 rotate_right 3
 iterate 2 (
 focus (
 (try rw [← Nbq2013.out] at hx176_4)
 (try rw [← Nbq2011.out] at hx176_5)
 (try rw [← Nbq2013.out] at hx176_5)
 cases e176
 replace hx176_0 := (HB.out.cell (World.block_lt_of_cell? w _ hx176_0)).trans hx176_0
 replace hx176_1 := (HB.out.cell (World.block_lt_of_cell? w _ hx176_1)).trans hx176_1
 replace hx176_2 := (HB.out.cell (World.block_lt_of_cell? w _ hx176_2)).trans hx176_2
 replace hx176_3 := (HB.out.cell (World.block_lt_of_cell? w _ hx176_3)).trans hx176_3
 replace hx176_4 := (HB.out.cell (World.block_lt_of_cell? w _ hx176_4)).trans hx176_4
 replace hx176_5 := (HB.out.cell (World.block_lt_of_cell? w _ hx176_5)).trans hx176_5
 replace p176 := eq_true p176
 replace q176 := eq_true q176
 go_wp2_with (first | ((with_reducible refine gate_dst (N := 5) rfl ?_); (try (refine gate_guard (by rfl) ?_; dsimp only)); refine box_event ?hg (N := 5) ?hd (cs := #[.int .i64 0, .int .i64 0, .int .i64 0, .int .i64 0, .bool false, .bool false]) (t := 85) ?hr ?_; (case hd => rfl); (case hg => rfl); (case hr => first | (go_simp; done) | (go_simp; rfl)); intro gb177 hg w3001 hbox hb; have n0_ := Aside0.mk (blk_below (Bh BK175) hb); have n1_ := Aside0.mk (below_step wB hb); have n2_ := Aside0.mk (hbox); have n3_ := Aside0.mk ((by rw [hg]; exact (below_size wB) : w.heap.size ≤ gb177)); have n4_ := Aside0.mk ((by rw [hg]; exact (below_size wB) : w.heap.size ≤ gb177)); have n5_ := Aside0.mk ((by rw [hg]; exact Nat.ne_of_lt (blk_lt (Bh BK175)) : gb175 ≠ gb177)); have n6_ := Aside0.mk ((by rw [hg]; exact Nat.ne_of_gt (blk_lt (Bh BK175)) : gb177 ≠ gb175)); clear BK175; clear HB; have BK175 := n0_; have HB := n1_; have BK177 := n2_; have GW177 := n3_; have GE177 := n4_; have NB175_177 := n5_; have NB177_175 := n6_; clear n0_ n1_ n2_ n3_ n4_ n5_ n6_; clear hb hbox hg; have hnb3002 := NB177_175.out; have hnc3002 := NB175_177.out; obtain ⟨⟨hcz3003_0, hcz3003_1, hcz3003_2, hcz3003_3, hcz3003_4, hcz3003_5⟩, hfz3003_0, hfz3003_1, hfz3003_2, hfz3003_3, hfz3003_4, hfz3003_5⟩ := cells6 BK177.out) | ((with_reducible refine gate_store (t := 85) (p := 5) rfl ?_); refine store_event (t := 85) (p := 5) (v := ?_) (w1 := ((((((w3001.setCell ⟨gb177, 0, none⟩ (.int .i64 ((rd_T85 l0_2 x32_2).f0))).setCell ⟨gb177, 1, none⟩ (.int .i64 ((rd_T85 l0_2 x32_2).f1))).setCell ⟨gb177, 2, none⟩ (.int .i64 ((rd_T85 l0_2 x32_2).f2))).setCell ⟨gb177, 3, none⟩ (.int .i64 ((rd_T85 l0_2 x32_2).f3))).setCell ⟨gb177, 4, none⟩ (.bool true)).setCell ⟨gb177, 5, none⟩ (.bool (by first | (clear bq1_; exact true) | exact false)))) ?hg ?ho ?hn ?hr ?_; (case ho => rfl); (case hg => rfl); (case hn => rfl); (case hr => first | (go_simp; done) | (go_simp; rfl)); intro w3004 hw; have n0_ : Aside0 (w3004.heap[gb175]? = some (.cells #[.int .i64 a0_0, .int .i64 a0_1, .slice (some ad176) l0_2.length c0_2] 63 (0, 0))) := ⟨(by rw [hw]; exact (by (with_reducible repeat (first | refine blk_drewN ?_ _ | refine blk_drew ?_ | refine blk_alloc ?_ _)); refine blk_far ?_ NB175_177.out _; (with_reducible repeat (first | refine blk_drewN ?_ _ | refine blk_drew ?_ | refine blk_alloc ?_ _)); refine blk_far ?_ NB175_177.out _; (with_reducible repeat (first | refine blk_drewN ?_ _ | refine blk_drew ?_ | refine blk_alloc ?_ _)); refine blk_far ?_ NB175_177.out _; (with_reducible repeat (first | refine blk_drewN ?_ _ | refine blk_drew ?_ | refine blk_alloc ?_ _)); refine blk_far ?_ NB175_177.out _; (with_reducible repeat (first | refine blk_drewN ?_ _ | refine blk_drew ?_ | refine blk_alloc ?_ _)); refine blk_far ?_ NB175_177.out _; (with_reducible repeat (first | refine blk_drewN ?_ _ | refine blk_drew ?_ | refine blk_alloc ?_ _)); refine blk_far ?_ NB175_177.out _; (with_reducible repeat (first | refine blk_drewN ?_ _ | refine blk_drew ?_ | refine blk_alloc ?_ _)); exact BK175.out))⟩; have n1_ : Aside0 (w3004.heap[gb177]? = some (.cells #[.int .i64 ((rd_T85 l0_2 x32_2).f0), .int .i64 ((rd_T85 l0_2 x32_2).f1), .int .i64 ((rd_T85 l0_2 x32_2).f2), .int .i64 ((rd_T85 l0_2 x32_2).f3), .bool true, .bool (by first | (clear bq1_; exact true) | exact false)] 85 (0, 0))) := ⟨(by rw [hw]; exact (by (with_reducible repeat (first | refine blk_drewN ?_ _ | refine blk_drew ?_ | refine blk_alloc ?_ _)); refine blk_put (cs := #[.int .i64 ((rd_T85 l0_2 x32_2).f0), .int .i64 ((rd_T85 l0_2 x32_2).f1), .int .i64 ((rd_T85 l0_2 x32_2).f2), .int .i64 ((rd_T85 l0_2 x32_2).f3), .bool true, .bool false]) ?_ 5 _ rfl; (with_reducible repeat (first | refine blk_drewN ?_ _ | refine blk_drew ?_ | refine blk_alloc ?_ _)); refine blk_put (cs := #[.int .i64 ((rd_T85 l0_2 x32_2).f0), .int .i64 ((rd_T85 l0_2 x32_2).f1), .int .i64 ((rd_T85 l0_2 x32_2).f2), .int .i64 ((rd_T85 l0_2 x32_2).f3), .bool false, .bool false]) ?_ 4 _ rfl; (with_reducible repeat (first | refine blk_drewN ?_ _ | refine blk_drew ?_ | refine blk_alloc ?_ _)); refine blk_put (cs := #[.int .i64 ((rd_T85 l0_2 x32_2).f0), .int .i64 ((rd_T85 l0_2 x32_2).f1), .int .i64 ((rd_T85 l0_2 x32_2).f2), .int .i64 0, .bool false, .bool false]) ?_ 3 _ rfl; (with_reducible repeat (first | refine blk_drewN ?_ _ | refine blk_drew ?_ | refine blk_alloc ?_ _)); refine blk_put (cs := #[.int .i64 ((rd_T85 l0_2 x32_2).f0), .int .i64 ((rd_T85 l0_2 x32_2).f1), .int .i64 0, .int .i64 0, .bool false, .bool false]) ?_ 2 _ rfl; (with_reducible repeat (first | refine blk_drewN ?_ _ | refine blk_drew ?_ | refine blk_alloc ?_ _)); refine blk_put (cs := #[.int .i64 ((rd_T85 l0_2 x32_2).f0), .int .i64 0, .int .i64 0, .int .i64 0, .bool false, .bool false]) ?_ 1 _ rfl; (with_reducible repeat (first | refine blk_drewN ?_ _ | refine blk_drew ?_ | refine blk_alloc ?_ _)); refine blk_put (cs := #[.int .i64 0, .int .i64 0, .int .i64 0, .int .i64 0, .bool false, .bool false]) ?_ 0 _ rfl; (with_reducible repeat (first | refine blk_drewN ?_ _ | refine blk_drew ?_ | refine blk_alloc ?_ _)); exact BK177.out))⟩; have n2_ : Aside0 (Below w.heap.size w w3004) := ⟨(by rw [hw]; exact wB)⟩; clear hw; clear BK175; clear BK177; clear HB; have BK175 := n0_; have BK177 := n1_; have HB := n2_; clear n0_ n1_ n2_; obtain ⟨⟨hcz3005_0, hcz3005_1, hcz3005_2, hcz3005_3, hcz3005_4, hcz3005_5⟩, hfz3005_0, hfz3005_1, hfz3005_2, hfz3005_3, hfz3005_4, hfz3005_5⟩ := cells6 BK177.out))
 all_goals (try (rename_i h_; exfalso; cases h_; done))
 all_goals (try (rename_i h_ h2_; exfalso; cases h_; done))
 )
 rotate_left
 )
 rotate_right 2
 {
 go_ret
 exact ⟨by first | rfl | (simp [errW_none, errW_some] <;> rfl) | (simp [*, errW_none, errW_some] <;> rfl), wB⟩
 }
 {
 go_roundg k2
 case measure => have := HJ1.out; have := HK2.out; omega
 case rel => exact ⟨((rd_T85 l0_2 x32_2).f1), (wrap64 (x32_2 + 1)), (by first | rfl | (simp; done) | (simp [*]; done)), (by first | rfl | (simp; done) | (simp [*]; done)), H', ⟨by have := HJ1.out; have := HK2.out; omega⟩, ⟨Bh BK175⟩, ⟨wB⟩⟩
 }
 {
 (try rw [← Nbq2011.out] at hx176_5)
 cases e176
 replace hx176_0 := (HB.out.cell (World.block_lt_of_cell? w _ hx176_0)).trans hx176_0
 replace hx176_1 := (HB.out.cell (World.block_lt_of_cell? w _ hx176_1)).trans hx176_1
 replace hx176_2 := (HB.out.cell (World.block_lt_of_cell? w _ hx176_2)).trans hx176_2
 replace hx176_3 := (HB.out.cell (World.block_lt_of_cell? w _ hx176_3)).trans hx176_3
 replace hx176_4 := (HB.out.cell (World.block_lt_of_cell? w _ hx176_4)).trans hx176_4
 replace hx176_5 := (HB.out.cell (World.block_lt_of_cell? w _ hx176_5)).trans hx176_5
 replace p176 := eq_true p176
 replace q176 := eq_true q176
 go_wp2_with (first | ((with_reducible refine gate_dst (N := 5) rfl ?_); (try (refine gate_guard (by rfl) ?_; dsimp only)); refine box_event ?hg (N := 5) ?hd (cs := #[.int .i64 0, .int .i64 0, .int .i64 0, .int .i64 0, .bool false, .bool false]) (t := 85) ?hr ?_; (case hd => rfl); (case hg => rfl); (case hr => first | (go_simp; done) | (go_simp; rfl)); intro gb177 hg w3001 hbox hb; have n0_ := Aside0.mk (blk_below (Bh BK175) hb); have n1_ := Aside0.mk (below_step wB hb); have n2_ := Aside0.mk (hbox); have n3_ := Aside0.mk ((by rw [hg]; exact (below_size wB) : w.heap.size ≤ gb177)); have n4_ := Aside0.mk ((by rw [hg]; exact (below_size wB) : w.heap.size ≤ gb177)); have n5_ := Aside0.mk ((by rw [hg]; exact Nat.ne_of_lt (blk_lt (Bh BK175)) : gb175 ≠ gb177)); have n6_ := Aside0.mk ((by rw [hg]; exact Nat.ne_of_gt (blk_lt (Bh BK175)) : gb177 ≠ gb175)); clear BK175; clear HB; have BK175 := n0_; have HB := n1_; have BK177 := n2_; have GW177 := n3_; have GE177 := n4_; have NB175_177 := n5_; have NB177_175 := n6_; clear n0_ n1_ n2_ n3_ n4_ n5_ n6_; clear hb hbox hg; have hnb3002 := NB177_175.out; have hnc3002 := NB175_177.out; obtain ⟨⟨hcz3003_0, hcz3003_1, hcz3003_2, hcz3003_3, hcz3003_4, hcz3003_5⟩, hfz3003_0, hfz3003_1, hfz3003_2, hfz3003_3, hfz3003_4, hfz3003_5⟩ := cells6 BK177.out) | ((with_reducible refine gate_store (t := 85) (p := 5) rfl ?_); refine store_event (t := 85) (p := 5) (v := ?_) (w1 := ((((((w3001.setCell ⟨gb177, 0, none⟩ (.int .i64 ((rd_T85 l0_2 x32_2).f0))).setCell ⟨gb177, 1, none⟩ (.int .i64 ((rd_T85 l0_2 x32_2).f1))).setCell ⟨gb177, 2, none⟩ (.int .i64 ((rd_T85 l0_2 x32_2).f2))).setCell ⟨gb177, 3, none⟩ (.int .i64 ((rd_T85 l0_2 x32_2).f3))).setCell ⟨gb177, 4, none⟩ (.bool false)).setCell ⟨gb177, 5, none⟩ (.bool ((rd_T85 l0_2 x32_2).f5)))) ?hg ?ho ?hn ?hr ?_; (case ho => rfl); (case hg => rfl); (case hn => rfl); (case hr => first | (go_simp; done) | (go_simp; rfl)); intro w3004 hw; have n0_ : Aside0 (w3004.heap[gb175]? = some (.cells #[.int .i64 a0_0, .int .i64 a0_1, .slice (some ad176) l0_2.length c0_2] 63 (0, 0))) := ⟨(by rw [hw]; exact (by (with_reducible repeat (first | refine blk_drewN ?_ _ | refine blk_drew ?_ | refine blk_alloc ?_ _)); refine blk_far ?_ NB175_177.out _; (with_reducible repeat (first | refine blk_drewN ?_ _ | refine blk_drew ?_ | refine blk_alloc ?_ _)); refine blk_far ?_ NB175_177.out _; (with_reducible repeat (first | refine blk_drewN ?_ _ | refine blk_drew ?_ | refine blk_alloc ?_ _)); refine blk_far ?_ NB175_177.out _; (with_reducible repeat (first | refine blk_drewN ?_ _ | refine blk_drew ?_ | refine blk_alloc ?_ _)); refine blk_far ?_ NB175_177.out _; (with_reducible repeat (first | refine blk_drewN ?_ _ | refine blk_drew ?_ | refine blk_alloc ?_ _)); refine blk_far ?_ NB175_177.out _; (with_reducible repeat (first | refine blk_drewN ?_ _ | refine blk_drew ?_ | refine blk_alloc ?_ _)); refine blk_far ?_ NB175_177.out _; (with_reducible repeat (first | refine blk_drewN ?_ _ | refine blk_drew ?_ | refine blk_alloc ?_ _)); exact BK175.out))⟩; have n1_ : Aside0 (w3004.heap[gb177]? = some (.cells #[.int .i64 ((rd_T85 l0_2 x32_2).f0), .int .i64 ((rd_T85 l0_2 x32_2).f1), .int .i64 ((rd_T85 l0_2 x32_2).f2), .int .i64 ((rd_T85 l0_2 x32_2).f3), .bool false, .bool ((rd_T85 l0_2 x32_2).f5)] 85 (0, 0))) := ⟨(by rw [hw]; exact (by (with_reducible repeat (first | refine blk_drewN ?_ _ | refine blk_drew ?_ | refine blk_alloc ?_ _)); refine blk_put (cs := #[.int .i64 ((rd_T85 l0_2 x32_2).f0), .int .i64 ((rd_T85 l0_2 x32_2).f1), .int .i64 ((rd_T85 l0_2 x32_2).f2), .int .i64 ((rd_T85 l0_2 x32_2).f3), .bool false, .bool false]) ?_ 5 _ rfl; (with_reducible repeat (first | refine blk_drewN ?_ _ | refine blk_drew ?_ | refine blk_alloc ?_ _)); refine blk_put (cs := #[.int .i64 ((rd_T85 l0_2 x32_2).f0), .int .i64 ((rd_T85 l0_2 x32_2).f1), .int .i64 ((rd_T85 l0_2 x32_2).f2), .int .i64 ((rd_T85 l0_2 x32_2).f3), .bool false, .bool false]) ?_ 4 _ rfl; (with_reducible repeat (first | refine blk_drewN ?_ _ | refine blk_drew ?_ | refine blk_alloc ?_ _)); refine blk_put (cs := #[.int .i64 ((rd_T85 l0_2 x32_2).f0), .int .i64 ((rd_T85 l0_2 x32_2).f1), .int .i64 ((rd_T85 l0_2 x32_2).f2), .int .i64 0, .bool false, .bool false]) ?_ 3 _ rfl; (with_reducible repeat (first | refine blk_drewN ?_ _ | refine blk_drew ?_ | refine blk_alloc ?_ _)); refine blk_put (cs := #[.int .i64 ((rd_T85 l0_2 x32_2).f0), .int .i64 ((rd_T85 l0_2 x32_2).f1), .int .i64 0, .int .i64 0, .bool false, .bool false]) ?_ 2 _ rfl; (with_reducible repeat (first | refine blk_drewN ?_ _ | refine blk_drew ?_ | refine blk_alloc ?_ _)); refine blk_put (cs := #[.int .i64 ((rd_T85 l0_2 x32_2).f0), .int .i64 0, .int .i64 0, .int .i64 0, .bool false, .bool false]) ?_ 1 _ rfl; (with_reducible repeat (first | refine blk_drewN ?_ _ | refine blk_drew ?_ | refine blk_alloc ?_ _)); refine blk_put (cs := #[.int .i64 0, .int .i64 0, .int .i64 0, .int .i64 0, .bool false, .bool false]) ?_ 0 _ rfl; (with_reducible repeat (first | refine blk_drewN ?_ _ | refine blk_drew ?_ | refine blk_alloc ?_ _)); exact BK177.out))⟩; have n2_ : Aside0 (Below w.heap.size w w3004) := ⟨(by rw [hw]; exact wB)⟩; clear hw; clear BK175; clear BK177; clear HB; have BK175 := n0_; have BK177 := n1_; have HB := n2_; clear n0_ n1_ n2_; obtain ⟨⟨hcz3005_0, hcz3005_1, hcz3005_2, hcz3005_3, hcz3005_4, hcz3005_5⟩, hfz3005_0, hfz3005_1, hfz3005_2, hfz3005_3, hfz3005_4, hfz3005_5⟩ := cells6 BK177.out))
 all_goals (try (rename_i h_; exfalso; cases h_; done))
 all_goals (try (rename_i h_ h2_; exfalso; cases h_; done))
 go_roundg k2
 case measure => have := HJ1.out; have := HK2.out; omega
 case rel => exact ⟨((rd_T85 l0_2 x32_2).f1), (wrap64 (x32_2 + 1)), (by first | rfl | (simp; done) | (simp [*]; done)), (by first | rfl | (simp; done) | (simp [*]; done)), H', ⟨by have := HJ1.out; have := HK2.out; omega⟩, ⟨Bh BK175⟩, ⟨wB⟩⟩
 }
 {
 cases e176
 replace hx176_0 := (HB.out.cell (World.block_lt_of_cell? w _ hx176_0)).trans hx176_0
 replace hx176_1 := (HB.out.cell (World.block_lt_of_cell? w _ hx176_1)).trans hx176_1
 replace hx176_2 := (HB.out.cell (World.block_lt_of_cell? w _ hx176_2)).trans hx176_2
 replace hx176_3 := (HB.out.cell (World.block_lt_of_cell? w _ hx176_3)).trans hx176_3
 replace hx176_4 := (HB.out.cell (World.block_lt_of_cell? w _ hx176_4)).trans hx176_4
 replace hx176_5 := (HB.out.cell (World.block_lt_of_cell? w _ hx176_5)).trans hx176_5
 replace p176 := eq_true p176
 replace q176 := eq_true q176
 go_wp2_with (first | ((with_reducible refine gate_dst (N := 5) rfl ?_); (try (refine gate_guard (by rfl) ?_; dsimp only)); refine box_event ?hg (N := 5) ?hd (cs := #[.int .i64 0, .int .i64 0, .int .i64 0, .int .i64 0, .bool false, .bool false]) (t := 85) ?hr ?_; (case hd => rfl); (case hg => rfl); (case hr => first | (go_simp; done) | (go_simp; rfl)); intro gb177 hg w3001 hbox hb; have n0_ := Aside0.mk (blk_below (Bh BK175) hb); have n1_ := Aside0.mk (below_step wB hb); have n2_ := Aside0.mk (hbox); have n3_ := Aside0.mk ((by rw [hg]; exact (below_size wB) : w.heap.size ≤ gb177)); have n4_ := Aside0.mk ((by rw [hg]; exact (below_size wB) : w.heap.size ≤ gb177)); have n5_ := Aside0.mk ((by rw [hg]; exact Nat.ne_of_lt (blk_lt (Bh BK175)) : gb175 ≠ gb177)); have n6_ := Aside0.mk ((by rw [hg]; exact Nat.ne_of_gt (blk_lt (Bh BK175)) : gb177 ≠ gb175)); clear BK175; clear HB; have BK175 := n0_; have HB := n1_; have BK177 := n2_; have GW177 := n3_; have GE177 := n4_; have NB175_177 := n5_; have NB177_175 := n6_; clear n0_ n1_ n2_ n3_ n4_ n5_ n6_; clear hb hbox hg; have hnb3002 := NB177_175.out; have hnc3002 := NB175_177.out; obtain ⟨⟨hcz3003_0, hcz3003_1, hcz3003_2, hcz3003_3, hcz3003_4, hcz3003_5⟩, hfz3003_0, hfz3003_1, hfz3003_2, hfz3003_3, hfz3003_4, hfz3003_5⟩ := cells6 BK177.out) | ((with_reducible refine gate_store (t := 85) (p := 5) rfl ?_); refine store_event (t := 85) (p := 5) (v := ?_) (w1 := ((((((w3001.setCell ⟨gb177, 0, none⟩ (.int .i64 ((rd_T85 l0_2 x32_2).f0))).setCell ⟨gb177, 1, none⟩ (.int .i64 ((rd_T85 l0_2 x32_2).f1))).setCell ⟨gb177, 2, none⟩ (.int .i64 ((rd_T85 l0_2 x32_2).f2))).setCell ⟨gb177, 3, none⟩ (.int .i64 ((rd_T85 l0_2 x32_2).f3))).setCell ⟨gb177, 4, none⟩ (.bool ((rd_T85 l0_2 x32_2).f4))).setCell ⟨gb177, 5, none⟩ (.bool ((rd_T85 l0_2 x32_2).f5)))) ?hg ?ho ?hn ?hr ?_; (case ho => rfl); (case hg => rfl); (case hn => rfl); (case hr => first | (go_simp; done) | (go_simp; rfl)); intro w3004 hw; have n0_ : Aside0 (w3004.heap[gb175]? = some (.cells #[.int .i64 a0_0, .int .i64 a0_1, .slice (some ad176) l0_2.length c0_2] 63 (0, 0))) := ⟨(by rw [hw]; exact (by (with_reducible repeat (first | refine blk_drewN ?_ _ | refine blk_drew ?_ | refine blk_alloc ?_ _)); refine blk_far ?_ NB175_177.out _; (with_reducible repeat (first | refine blk_drewN ?_ _ | refine blk_drew ?_ | refine blk_alloc ?_ _)); refine blk_far ?_ NB175_177.out _; (with_reducible repeat (first | refine blk_drewN ?_ _ | refine blk_drew ?_ | refine blk_alloc ?_ _)); refine blk_far ?_ NB175_177.out _; (with_reducible repeat (first | refine blk_drewN ?_ _ | refine blk_drew ?_ | refine blk_alloc ?_ _)); refine blk_far ?_ NB175_177.out _; (with_reducible repeat (first | refine blk_drewN ?_ _ | refine blk_drew ?_ | refine blk_alloc ?_ _)); refine blk_far ?_ NB175_177.out _; (with_reducible repeat (first | refine blk_drewN ?_ _ | refine blk_drew ?_ | refine blk_alloc ?_ _)); refine blk_far ?_ NB175_177.out _; (with_reducible repeat (first | refine blk_drewN ?_ _ | refine blk_drew ?_ | refine blk_alloc ?_ _)); exact BK175.out))⟩; have n1_ : Aside0 (w3004.heap[gb177]? = some (.cells #[.int .i64 ((rd_T85 l0_2 x32_2).f0), .int .i64 ((rd_T85 l0_2 x32_2).f1), .int .i64 ((rd_T85 l0_2 x32_2).f2), .int .i64 ((rd_T85 l0_2 x32_2).f3), .bool ((rd_T85 l0_2 x32_2).f4), .bool ((rd_T85 l0_2 x32_2).f5)] 85 (0, 0))) := ⟨(by rw [hw]; exact (by (with_reducible repeat (first | refine blk_drewN ?_ _ | refine blk_drew ?_ | refine blk_alloc ?_ _)); refine blk_put (cs := #[.int .i64 ((rd_T85 l0_2 x32_2).f0), .int .i64 ((rd_T85 l0_2 x32_2).f1), .int .i64 ((rd_T85 l0_2 x32_2).f2), .int .i64 ((rd_T85 l0_2 x32_2).f3), .bool ((rd_T85 l0_2 x32_2).f4), .bool false]) ?_ 5 _ rfl; (with_reducible repeat (first | refine blk_drewN ?_ _ | refine blk_drew ?_ | refine blk_alloc ?_ _)); refine blk_put (cs := #[.int .i64 ((rd_T85 l0_2 x32_2).f0), .int .i64 ((rd_T85 l0_2 x32_2).f1), .int .i64 ((rd_T85 l0_2 x32_2).f2), .int .i64 ((rd_T85 l0_2 x32_2).f3), .bool false, .bool false]) ?_ 4 _ rfl; (with_reducible repeat (first | refine blk_drewN ?_ _ | refine blk_drew ?_ | refine blk_alloc ?_ _)); refine blk_put (cs := #[.int .i64 ((rd_T85 l0_2 x32_2).f0), .int .i64 ((rd_T85 l0_2 x32_2).f1), .int .i64 ((rd_T85 l0_2 x32_2).f2), .int .i64 0, .bool false, .bool false]) ?_ 3 _ rfl; (with_reducible repeat (first | refine blk_drewN ?_ _ | refine blk_drew ?_ | refine blk_alloc ?_ _)); refine blk_put (cs := #[.int .i64 ((rd_T85 l0_2 x32_2).f0), .int .i64 ((rd_T85 l0_2 x32_2).f1), .int .i64 0, .int .i64 0, .bool false, .bool false]) ?_ 2 _ rfl; (with_reducible repeat (first | refine blk_drewN ?_ _ | refine blk_drew ?_ | refine blk_alloc ?_ _)); refine blk_put (cs := #[.int .i64 ((rd_T85 l0_2 x32_2).f0), .int .i64 0, .int .i64 0, .int .i64 0, .bool false, .bool false]) ?_ 1 _ rfl; (with_reducible repeat (first | refine blk_drewN ?_ _ | refine blk_drew ?_ | refine blk_alloc ?_ _)); refine blk_put (cs := #[.int .i64 0, .int .i64 0, .int .i64 0, .int .i64 0, .bool false, .bool false]) ?_ 0 _ rfl; (with_reducible repeat (first | refine blk_drewN ?_ _ | refine blk_drew ?_ | refine blk_alloc ?_ _)); exact BK177.out))⟩; have n2_ : Aside0 (Below w.heap.size w w3004) := ⟨(by rw [hw]; exact wB)⟩; clear hw; clear BK175; clear BK177; clear HB; have BK175 := n0_; have BK177 := n1_; have HB := n2_; clear n0_ n1_ n2_; obtain ⟨⟨hcz3005_0, hcz3005_1, hcz3005_2, hcz3005_3, hcz3005_4, hcz3005_5⟩, hfz3005_0, hfz3005_1, hfz3005_2, hfz3005_3, hfz3005_4, hfz3005_5⟩ := cells6 BK177.out))
 all_goals (try (rename_i h_; exfalso; cases h_; done))
 all_goals (try (rename_i h_ h2_; exfalso; cases h_; done))
 go_ret
 exact ⟨by first | rfl | (simp [errW_none, errW_some] <;> rfl) | (simp [*, errW_none, errW_some] <;> rfl), wB⟩
 }
 {
 obtain ⟨⟨hcz3001_0, hcz3001_1, hcz3001_2⟩, hfz3001_0, hfz3001_1, hfz3001_2⟩ := cells3 BK175.out
 go_wp2
 all_goals (try (rename_i h_; exfalso; cases h_; done))
 all_goals (try (rename_i h_ h2_; exfalso; cases h_; done))
 go_ret
 exact ⟨by first | rfl | (simp [errW_none, errW_some] <;> rfl) | (simp [*, errW_none, errW_some] <;> rfl), wB⟩
 }
 }
 )
 }
 }
 )

/-! ### impl_Piece: function 134 -/
def impl_Piece.f (l0 : List (S85)) : Option ((List (S85))) := (some (([] : List (S85)) : List (S85))).bind fun y178 => (if y178.length + l0.length < 3518437208883 then (some (y178 ++ l0)) else (none))
set_option maxHeartbeats 60000000 in
set_option maxRecDepth 100000 in
theorem impl_Piece.calls (A0 : Option Addr) (c0 : Nat) (l0 : List (S85)) (r : List (S85)) (w : World) (hr0 : Kd.C k85 w A0 l0.length l0) (hc0 : l0.length ≤ c0) (h : impl_Piece.f l0 = some r) :
    Calls Try.prog 134 #[.slice A0 l0.length c0] w fun e w' => ∃ v0_ : Value, e = .returned (v0_) ∧ Kd.R k85 85 w' w.heap.size (fun _ => True) v0_ r ∧ Below w.heap.size w w' := by
  by_cases hA : A0.isNone = true
  · have hA : A0 = none := Option.isNone_iff_eq_none.1 hA
    subst hA
    obtain rfl : l0 = [] := by
      cases l0 with
      | nil => rfl
      | cons x l => obtain ⟨ad, ha, _⟩ := hr0.2.2 (by simp); cases ha
    have he_ : ∀ w : World, (binOp .eql 61 (.slice none ([] : List (S85)).length c0) (.slice none 0 0)).run Try.prog w = .ok (.bool true) w := fun _ => rfl
    have he2_ : ∀ w : World, (binOp .eql 61 (.slice none 0 c0) (.slice none 0 0)).run Try.prog w = .ok (.bool true) w := fun _ => rfl
    have h2 : impl_Piece.f [] = some [] := by simp [impl_Piece.f]
    obtain rfl := Option.some.inj (h2.symm.trans h)
    go_enter Try.func134, Try.ntmps134
    go_wp2
    go_ret
    exact ⟨_, rfl, Kd.R_nil _ _ _ _ _, Below.refl _ _⟩
  have he_ : ∀ w : World, (binOp .eql 61 (.slice A0 l0.length c0) (.slice none 0 0)).run Try.prog w = .ok (.bool false) w := fun w => by
    cases A0 with
    | none => exact absurd rfl hA
    | some ad => rfl
  have HR0 := Aside0.mk hr0
  have HC0 := Aside0.mk hc0
  clear hr0 hc0
  have HB := Aside0.mk (Below.refl w.heap.size w)
  have H : ((some (([] : List (S85)) : List (S85))).bind fun y178 => (if y178.length + l0.length < 3518437208883 then (some (y178 ++ l0)) else (none))) = some r := h
  clear h
  obtain ⟨y178, hy178⟩ : ∃ y_ : List (S85), y_ = (([] : List (S85))) := ⟨_, rfl⟩
  replace H : (if y178.length + l0.length < 3518437208883 then (some (y178 ++ l0)) else (none)) = some r := by first | (rw [hy178]; with_reducible exact H) | (have H2_ := (Option.bind_some _ _).symm.trans H; rw [hy178]; with_reducible exact H2_) | (have H2_ := (Option.bind_some _ _).symm.trans H; with_reducible exact H2_) | with_reducible exact H | (rw [hy178]; exact H) | exact H
  have Ny178 := Aside0.mk hy178
  clear hy178
  by_cases c2 : y178.length + l0.length < 3518437208883
  · rw [if_pos c2] at H
    have LMc2 := Aside0.mk c2
    clear c2
    obtain ⟨y181, hy181⟩ : ∃ y_ : List (S85), y_ = (y178 ++ l0) := ⟨_, rfl⟩
    replace H : (some y181) = some r := by first | (rw [hy181]; with_reducible exact H) | (have H2_ := (Option.bind_some _ _).symm.trans H; rw [hy181]; with_reducible exact H2_) | (have H2_ := (Option.bind_some _ _).symm.trans H; with_reducible exact H2_) | with_reducible exact H | (rw [hy181]; exact H) | exact H
    have Ny181 := Aside0.mk hy181
    clear hy181
    obtain rfl := Option.some.inj H
    go_enter Try.func134, Try.ntmps134
    go_wp2_with (first | ((with_reducible refine gate_dst (N := 5) rfl ?_); refine Kd.R_lit k85 _ 85 ?hg (N := 5) ?hd (xs := ([] : List (S85))) (inner := []) (ok := fun _ => True) (okp := fun _ => True) ?hr ?hp (fun _ hk => hk) trivial (Below.refl _ _) (Nat.le_refl _) (by simp) ?_; (case hd => rfl); (case hg => rfl); (case hr => first | (go_simp; done) | (go_simp; rfl)); (case hp => exact (Reps.none _ _)); intro v179 w1001 ho1002 hb hg_ hnew_; clear hg_ hnew_; (first | rw [← Ny178.out] at ho1002 | (simp only [Int.reduceToNat] at ho1002; rw [← Ny178.out] at ho1002)); have n0_ := Aside0.mk (Kd.R_lower ho1002 (below_size wB)); have n1_ := Aside0.mk (below_step wB hb); clear HB; have HO180 := n0_; have HB := n1_; clear n0_ n1_; clear hb ho1002) | ((with_reducible refine gate_builtin (b := .append) (xs := #[.tmp 5, .tmp 6]) rfl ?_); at_builtin; refine Kd.R_append_rows k85 (w0 := w) w.heap.size rfl (.tmp 5) (.tmp 6) 61 85 (.agg #[(.int .i64 0), (.int .i64 0), (.int .i64 0), (.int .i64 0), (.bool false), (.bool false)]) 40 rfl Try.underlying61 info85 rfl (by decide) (by omega) v179 y178 l0 _ _ _ (fun _ => True) (fun _ => False) rfl rfl ?aO ?aR (fun _ _ h => h) (fun _ h => h.elim) ?aF ?aB ?aS ?aL ?_; (case aR => exact Kd.C_below HR0.out wB); (case aB => exact wB); (case aF => exact (fun _ _ => trivial)); (case aO => exact (Rh HO180)); (case aS => exact (below_size wB)); (case aL => have := LMc2.out; omega); intro v182 w1003 ho hb hg hat; rw [← Ny181.out] at ho; have n0_ := Aside0.mk (hb); have n1_ := Aside0.mk (ho); clear HB; clear HO180; have HB := n0_; have HO183 := n1_; clear n0_ n1_; clear ho hb hg hat))
    go_ret
    exact ⟨_, by first | rfl | (simp [errW_none, errW_some] <;> rfl) | (simp [*, errW_none, errW_some] <;> rfl), by (with_reducible repeat (first | apply Kd.R_alloc | apply Kd.R_drewN | apply Kd.R_drew)); exact HO183.out, wB⟩
  · rw [if_neg c2] at H
    exact absurd H (by simp)

/-! ### impl_ownBoard: function 87 -/
def impl_ownBoard.f (a0_0 : Int) (a0_1 : Int) (l0_2 : List (S85)) : Option (Int × Int × (List (S85))) := (impl_Piece.f l0_2).bind fun t186 => (some (a0_0, a0_1, t186))
set_option maxHeartbeats 60000000 in
set_option maxRecDepth 100000 in
theorem impl_ownBoard.calls (a0_0 : Int) (a0_1 : Int) (A0_2 : Option Addr) (c0_2 : Nat) (l0_2 : List (S85)) (r1 : Int) (r2 : Int) (r3 : List (S85)) (w : World) (hr0_2 : Kd.C k85 w A0_2 l0_2.length l0_2) (hc0_2 : l0_2.length ≤ c0_2) (h : impl_ownBoard.f a0_0 a0_1 l0_2 = some (r1, r2, r3)) :
    Calls Try.prog 87 #[.agg #[.int .i64 a0_0, .int .i64 a0_1, .slice A0_2 l0_2.length c0_2]] w fun e w' => ∃ v2_ : Value, e = .returned (.agg #[.int .i64 r1, .int .i64 r2, v2_]) ∧ Kd.R k85 85 w' w.heap.size (fun _ => True) v2_ r3 ∧ Below w.heap.size w w' := by
  have hu63 := Try.underlying63
  have HR0_2 := Aside0.mk hr0_2
  have HC0_2 := Aside0.mk hc0_2
  clear hr0_2 hc0_2
  have HB := Aside0.mk (Below.refl w.heap.size w)
  have H : ((impl_Piece.f l0_2).bind fun t186 => (some (a0_0, a0_1, t186))) = some (r1, r2, r3) := h
  clear h
  replace H := Option.bind_eq_some_iff.mp H
  obtain ⟨t186, A20, H⟩ := H
  replace H : (some (a0_0, a0_1, t186)) = some (r1, r2, r3) := H
  have A2 := Aside0.mk A20
  clear A20
  simp only [Option.some.injEq, Prod.mk.injEq] at H
  obtain ⟨rfl, rfl, rfl⟩ := H
  go_enter Try.func87, Try.ntmps87
  go_wp2_with (first | ((with_reducible refine gate_dst (N := 1) rfl ?_); refine box_event ?hg (N := 1) ?hd (cs := #[.int .i64 a0_0, .int .i64 a0_1, .slice A0_2 l0_2.length c0_2]) (t := 63) ?hr ?_; (case hd => rfl); (case hg => rfl); (case hr => first | (go_simp; done) | (go_simp; rfl)); intro gb184 hg w1001 hbox hb; have n0_ := Aside0.mk (below_step wB hb); have n1_ := Aside0.mk (hbox); have n2_ := Aside0.mk ((by rw [hg]; exact (below_size wB) : w.heap.size ≤ gb184)); have n3_ := Aside0.mk ((by rw [hg]; exact (below_size wB) : w.heap.size ≤ gb184)); clear HB; have HB := n0_; have BK184 := n1_; have GW184 := n2_; have GE184 := n3_; clear n0_ n1_ n2_ n3_; clear hb hbox hg) | ((with_reducible refine gate_dst (N := 2) rfl ?_); refine box_event ?hg (N := 2) ?hd (cs := #[.int .i64 0, .int .i64 0, .slice none 0 0]) (t := 63) ?hr ?_; (case hd => rfl); (case hg => rfl); (case hr => first | (go_simp; done) | (go_simp; rfl)); intro gb185 hg w1002 hbox hb; have n0_ := Aside0.mk (blk_below (Bh BK184) hb); have n1_ := Aside0.mk (below_step wB hb); have n2_ := Aside0.mk (hbox); have n3_ := Aside0.mk ((by rw [hg]; exact (below_size wB) : w.heap.size ≤ gb185)); have n4_ := Aside0.mk ((by rw [hg]; exact (below_size wB) : w.heap.size ≤ gb185)); have n5_ := Aside0.mk ((by rw [hg]; exact Nat.ne_of_lt (blk_lt (Bh BK184)) : gb184 ≠ gb185)); have n6_ := Aside0.mk ((by rw [hg]; exact Nat.ne_of_gt (blk_lt (Bh BK184)) : gb185 ≠ gb184)); clear BK184; clear HB; have BK184 := n0_; have HB := n1_; have BK185 := n2_; have GW185 := n3_; have GE185 := n4_; have NB184_185 := n5_; have NB185_184 := n6_; clear n0_ n1_ n2_ n3_ n4_ n5_ n6_; clear hb hbox hg; have hnb1003 := NB184_185.out; have hnc1003 := NB185_184.out; obtain ⟨⟨hcz1004_0, hcz1004_1, hcz1004_2⟩, hfz1004_0, hfz1004_1, hfz1004_2⟩ := cells3 BK184.out) | ((with_reducible refine gate_callee (f := 134) rfl ?_); refine goesL_ (some 5) rfl rfl Try.func134 (by kernel_rfl) rfl #[.slice A0_2 l0_2.length c0_2] rfl wT ?_; (with_reducible refine (impl_Piece.calls _ _ l0_2 t186 _ ?side1 ?side2 A2.out).mono ?_); (case side1 => exact Kd.C_below HR0_2.out wB); (case side2 => exact HC0_2.out); rintro e w1005 ⟨v187, rfl, ho0, hb⟩; refine ⟨_, rfl, ?_⟩; have n0_ := Aside0.mk (Kd.R_lower ho0 (below_size wB)); have n1_ := Aside0.mk (blk_below (Bh BK184) hb); have n2_ := Aside0.mk (blk_below (Bh BK185) hb); have n3_ := Aside0.mk (below_step wB hb); clear BK184; clear BK185; clear HB; have HO188 := n0_; have BK184 := n1_; have BK185 := n2_; have HB := n3_; clear n0_ n1_ n2_ n3_; (try clear hb); (try clear hb2); (try clear hk); (try clear hi); (try clear ho0); obtain ⟨Ao1006, co1006, eo1006⟩ := Kd.R_slice HO188.out; subst eo1006; obtain ⟨⟨hcz1007_0, hcz1007_1, hcz1007_2⟩, hfz1007_0, hfz1007_1, hfz1007_2⟩ := cells3 BK184.out; obtain ⟨⟨hcz1008_0, hcz1008_1, hcz1008_2⟩, hfz1008_0, hfz1008_1, hfz1008_2⟩ := cells3 BK185.out) | ((with_reducible refine gate_store (t := 63) (p := 2) rfl ?_); refine store_event (t := 63) (p := 2) (v := ?_) (w1 := ((((w1005.setCell ⟨gb184, 2, none⟩ (.slice Ao1006 t186.length co1006)).setCell ⟨gb185, 0, none⟩ (.int .i64 a0_0)).setCell ⟨gb185, 1, none⟩ (.int .i64 a0_1)).setCell ⟨gb185, 2, none⟩ (.slice Ao1006 t186.length co1006))) ?hg ?ho ?hn ?hr ?_; (case ho => rfl); (case hg => rfl); (case hn => rfl); (case hr => first | (go_simp; done) | (go_simp; rfl)); intro w1009 hw; have n0_ : Aside0 (Kd.R k85 85 w1009 w.heap.size (fun _ => True) (.slice Ao1006 t186.length co1006) t186) := ⟨(by rw [hw]; exact (by (with_reducible repeat (first | apply Kd.R_alloc | apply Kd.R_drewN | apply Kd.R_drew)); exact Kd.R_mono (Kd.R_far (p := ⟨gb185, 2, none⟩) (Kd.R_far (p := ⟨gb185, 1, none⟩) (Kd.R_far (p := ⟨gb185, 0, none⟩) (Kd.R_far (p := ⟨gb184, 2, none⟩) (Kd.R_types (Kd.R_types HO188.out BK184.out (by decide)) BK185.out (by decide)) (fun _ hk => hk.1.2) (.slice Ao1006 t186.length co1006)) (fun _ hk => hk.2) (.int .i64 a0_0)) (fun _ hk => hk.2) (.int .i64 a0_1)) (fun _ hk => hk.2) (.slice Ao1006 t186.length co1006)) (fun _ hk => trivial)))⟩; have n1_ : Aside0 (w1009.heap[gb184]? = some (.cells #[.int .i64 a0_0, .int .i64 a0_1, .slice Ao1006 t186.length co1006] 63 (0, 0))) := ⟨(by rw [hw]; exact (by (with_reducible repeat (first | refine blk_drewN ?_ _ | refine blk_drew ?_ | refine blk_alloc ?_ _)); refine blk_far ?_ NB184_185.out _; (with_reducible repeat (first | refine blk_drewN ?_ _ | refine blk_drew ?_ | refine blk_alloc ?_ _)); refine blk_far ?_ NB184_185.out _; (with_reducible repeat (first | refine blk_drewN ?_ _ | refine blk_drew ?_ | refine blk_alloc ?_ _)); refine blk_far ?_ NB184_185.out _; (with_reducible repeat (first | refine blk_drewN ?_ _ | refine blk_drew ?_ | refine blk_alloc ?_ _)); refine blk_put (cs := #[.int .i64 a0_0, .int .i64 a0_1, .slice A0_2 l0_2.length c0_2]) ?_ 2 _ rfl; (with_reducible repeat (first | refine blk_drewN ?_ _ | refine blk_drew ?_ | refine blk_alloc ?_ _)); exact BK184.out))⟩; have n2_ : Aside0 (w1009.heap[gb185]? = some (.cells #[.int .i64 a0_0, .int .i64 a0_1, .slice Ao1006 t186.length co1006] 63 (0, 0))) := ⟨(by rw [hw]; exact (by (with_reducible repeat (first | refine blk_drewN ?_ _ | refine blk_drew ?_ | refine blk_alloc ?_ _)); refine blk_put (cs := #[.int .i64 a0_0, .int .i64 a0_1, .slice none 0 0]) ?_ 2 _ rfl; (with_reducible repeat (first | refine blk_drewN ?_ _ | refine blk_drew ?_ | refine blk_alloc ?_ _)); refine blk_put (cs := #[.int .i64 a0_0, .int .i64 0, .slice none 0 0]) ?_ 1 _ rfl; (with_reducible repeat (first | refine blk_drewN ?_ _ | refine blk_drew ?_ | refine blk_alloc ?_ _)); refine blk_put (cs := #[.int .i64 0, .int .i64 0, .slice none 0 0]) ?_ 0 _ rfl; (with_reducible repeat (first | refine blk_drewN ?_ _ | refine blk_drew ?_ | refine blk_alloc ?_ _)); refine blk_far ?_ NB185_184.out _; (with_reducible repeat (first | refine blk_drewN ?_ _ | refine blk_drew ?_ | refine blk_alloc ?_ _)); exact BK185.out))⟩; have n3_ : Aside0 (Below w.heap.size w w1009) := ⟨(by rw [hw]; exact wB)⟩; clear hw; clear HO188; clear BK184; clear BK185; clear HB; have HO188 := n0_; have BK184 := n1_; have BK185 := n2_; have HB := n3_; clear n0_ n1_ n2_ n3_))
  refine bodyPost_ret (results_cell_row rfl _ _ gb185 63 #[.int .i64 a0_0, .int .i64 a0_1, .slice Ao1006 t186.length co1006] (0, 0) _ rfl (Bh BK185) Try.underlying63 rfl (by kernel_rfl)) rfl ?_
  exact ⟨_, by first | rfl | (simp [errW_none, errW_some] <;> rfl) | (simp [*, errW_none, errW_some] <;> rfl), by (with_reducible repeat (first | apply Kd.R_alloc | apply Kd.R_drewN | apply Kd.R_drew)); exact HO188.out, wB⟩

end Go.Proofs.Ytkfbcmbemihbnaa.PFnExactBoardLose
