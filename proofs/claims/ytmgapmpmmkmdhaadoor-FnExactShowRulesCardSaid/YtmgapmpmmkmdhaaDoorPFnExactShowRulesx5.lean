-- Written for this claim by a program of this session (wip/mkprint.py: the print, turned at a few places). Not trusted: Lean checks it.
import Derived.Test.YtmgapmpmmkmdhaaDoorPFnExactShowRulesx0
import Derived.Test.YtmgapmpmmkmdhaaDoorPFnExactShowRulesx4
namespace Go.Proofs.YtmgapmpmmkmdhaaDoor.PFnExactShowRules
open Go.RowKit Go.Proofs.YtmgapmpmmkmdhaaDoorW.PrintWords Go.Proofs.YtmgapmpmmkmdhaaDoorW.PrintLast Go.Proofs.YtmgapmpmmkmdhaaDoorW.PrintMore
attribute [local go_sem] max2_int min2_int max_two min_two max_three min_three max_four min_four   -- for this text's walks alone
set_option linter.unusedVariables false
set_option linter.unusedSimpArgs false

/-! ### laws_toRuleS: function 6 -/
def laws_toRuleS.l0 : Nat → List (S41) → List (S33) → Int → Option ((List (S33)))
  | 0, _, _, _ => none
  | k + 1, x0, x3, x4 => if x4 < (x0.length : Int) then (if 0 ≤ x4 then ((laws_toRule.f ((rd_T41 x0 x4).f0) ((rd_T41 x0 x4).f1) ((rd_T41 x0 x4).f2) ((rd_T41 x0 x4).f3.f0) ((rd_T41 x0 x4).f3.f1) ((rd_T41 x0 x4).f4) ((rd_T41 x0 x4).f5) ((rd_T41 x0 x4).f6.f0) ((rd_T41 x0 x4).f6.f1) ((rd_T41 x0 x4).f7) ((rd_T41 x0 x4).f8) ((rd_T41 x0 x4).f9)).bind fun bt183 => (if x4 < (x3.length : Int) then (laws_toRuleS.l0 k x0 (x3.set (x4 : Int).toNat (⟨bt183.1, bt183.2.1, bt183.2.2.1, (⟨bt183.2.2.2.1, bt183.2.2.2.2.1⟩ : S31), bt183.2.2.2.2.2.1, bt183.2.2.2.2.2.2.1, (⟨bt183.2.2.2.2.2.2.2.1, bt183.2.2.2.2.2.2.2.2.1⟩ : S31), bt183.2.2.2.2.2.2.2.2.2.1, bt183.2.2.2.2.2.2.2.2.2.2.1, bt183.2.2.2.2.2.2.2.2.2.2.2⟩ : S33)) (wrap64 (x4 + 1))) else (none))) else (none)) else (some x3)
def laws_toRuleS.f (k : Nat) (l0 : List (S41)) : Option ((List (S33))) := if 0 ≤ (l0.length : Int) then (if ((l0.length : Int) : Int).toNat ≤ 2932031007402 then (laws_toRuleS.l0 k l0 (List.replicate ((l0.length : Int) : Int).toNat z33) 0) else (none)) else (none)
theorem laws_toRuleS.mono_l : ∀ k, (∀ y0 y1 y2, LeO (laws_toRuleS.l0 k y0 y1 y2) (laws_toRuleS.l0 (k + 1) y0 y1 y2))
  | 0 => fun _ _ _ r h => by simp [laws_toRuleS.l0] at h
  | k + 1 => by
    have ih0 := laws_toRuleS.mono_l k
    · intro y0 y1 y2
      unfold laws_toRuleS.l0
      repeat' first
      | (with_reducible exact ih0 _ _ _)
      | (with_reducible exact LeO.refl _)
      | (with_reducible exact LeO.none _)
      | (with_reducible refine LeO.ite ?_ ?_)
      | (with_reducible refine LeO.bind ?_ (fun _ => ?_))
      | exact ih0 _ _ _
      | exact LeO.none _
      | refine LeO.ite ?_ ?_
      | refine LeO.bind ?_ (fun _ => ?_)
theorem laws_toRuleS.mono : ∀ a0 k, LeO (laws_toRuleS.f k a0) (laws_toRuleS.f (k + 1) a0) := by
 intro a0 k
 have ih0 := laws_toRuleS.mono_l k
 unfold laws_toRuleS.f
 repeat' first
     | (with_reducible exact ih0 _ _ _)
     | (with_reducible exact LeO.refl _)
     | (with_reducible exact LeO.none _)
     | (with_reducible refine LeO.ite ?_ ?_)
     | (with_reducible refine LeO.bind ?_ (fun _ => ?_))
     | exact ih0 _ _ _
     | exact LeO.none _
     | refine LeO.ite ?_ ?_
     | refine LeO.bind ?_ (fun _ => ?_)
set_option maxHeartbeats 60000000 in
set_option maxRecDepth 100000 in
theorem laws_toRuleS.calls (k : Nat) (A0 : Option Addr) (c0 : Nat) (l0 : List (S41)) (r : List (S33)) (w : World) (hr0 : Kd.C k41 w A0 l0.length l0) (hc0 : l0.length ≤ c0) (h : laws_toRuleS.f k l0 = some r) :
 Calls Tryd.prog 6 #[.slice A0 l0.length c0] w fun e w' => ∃ v0_ : Value, e = .returned (v0_) ∧ Kd.R k33 33 w' w.heap.size (fun _ => True) v0_ r ∧ Below w.heap.size w w' := by
 have hu41 := Tryd.underlying41
 have hu33 := Tryd.underlying33
 have HR0 := Aside0.mk hr0
 have HC0 := Aside0.mk hc0
 clear hr0 hc0
 have HB := Aside0.mk (Below.refl w.heap.size w)
 have H : (if 0 ≤ (l0.length : Int) then (if ((l0.length : Int) : Int).toNat ≤ 2932031007402 then (laws_toRuleS.l0 k l0 (List.replicate ((l0.length : Int) : Int).toNat z33) 0) else (none)) else (none)) = some r := h
 clear h
 by_cases c2 : 0 ≤ (l0.length : Int)
 {
 rw [if_pos c2] at H
 have c2b0 := eq_true c2
 have c2b1 : decide (0 ≤ (l0.length : Int)) = true := decide_eq_true c2
 clear c2
 by_cases c3 : ((l0.length : Int) : Int).toNat ≤ 2932031007402
 {
 rw [if_pos c3] at H
 have c3b0 := eq_true c3
 have c3b1 : decide (((l0.length : Int) : Int).toNat ≤ 2932031007402) = true := decide_eq_true c3
 clear c3
 obtain ⟨y179, hy179⟩ : ∃ y_ : List (S33), y_ = (List.replicate ((l0.length : Int) : Int).toNat z33) := ⟨_, rfl⟩
 replace H : (laws_toRuleS.l0 k l0 y179 0) = some r := by first | (rw [hy179]; with_reducible exact H) | (have H2_ := (Option.bind_some _ _).symm.trans H; rw [hy179]; with_reducible exact H2_) | (have H2_ := (Option.bind_some _ _).symm.trans H; with_reducible exact H2_) | with_reducible exact H | (rw [hy179]; exact H) | exact H
 have Ny179 := Aside0.mk hy179
 clear hy179
 have H' := Aside0.mk H
 clear H
 go_enter Tryd.func6, Tryd.ntmps6
 go_wp2_with (first | ((with_reducible refine gate_dst (N := 7) rfl ?_); refine Kd.R_make k33 _ 33 rfl (N := 7) rfl 26 _ _ rfl (l0.length : Int) rfl rfl Tryd.underlying26 (.agg #[(.int .i64 0), (.int .i64 0), (.int .i64 0), (.int .i64 0), (.int .i64 0), (.int .i64 0), (.int .i64 0), (.int .i64 0), (.int .i64 0), (.int .i64 0), (.int .i64 0), (.int .i64 0)]) 96 info33 rfl (by decide) (by omega) z33 (ok := fun _ => True) (okp := fun _ => True) (k33_mkM _ _ _ z33 ) (fun _ hk => hk) trivial (of_decide_eq_true (by first | (with_reducible assumption) | assumption)) (Nat.le_trans (Nat.mul_le_mul_right _ (of_decide_eq_true (by first | (with_reducible assumption) | assumption) : (l0.length : Int).toNat ≤ 2932031007402)) (by omega)) (Below.refl _ _) (Nat.le_refl _) ?_; intro v180 w1001 ho1002 hb hg_ hnew_; clear hg_ hnew_; (first | rw [← Ny179.out] at ho1002 | (simp only [Int.reduceToNat] at ho1002; rw [← Ny179.out] at ho1002)); have n0_ := Aside0.mk (Kd.R_lower ho1002 (below_size wB)); have n1_ := Aside0.mk (below_step wB hb); clear HB; have HO181 := n0_; have HB := n1_; clear n0_ n1_; clear hb ho1002))
 go_loopg [4] k (fun kq v4 w' => ∃ (x3_1 : List (S33)) (x4_1 : Int), v4 = .int .i64 x4_1 ∧ Aside0 (laws_toRuleS.l0 kq l0 x3_1 x4_1 = some r) ∧ Aside0 (kq ≤ k) ∧ Aside0 (Kd.R k33 33 w' w.heap.size (fun _ => True) v180 x3_1) ∧ Aside0 (Below w.heap.size w w'))
 case atStart => exact ⟨(y179), (0), (by first | rfl | (simp; done) | (simp [*]; done)), H', ⟨Nat.le_refl _⟩, ⟨Rh HO181⟩, ⟨wB⟩⟩
 case round => (
 clear H'
 try clear c2
 try clear c2b0
 try clear c2b1
 try clear p2
 try clear c3
 try clear c3b0
 try clear c3b1
 obtain ⟨x3_1, x4_1, rfl, HA, HK1, HO_3, HB⟩ := hrel
 cases gk with
 | zero => exact absurd HA.out (by simp [laws_toRuleS.l0])
 | succ k1 => {
 have H := HA.out
 clear HA
 simp only [laws_toRuleS.l0] at H
 by_cases c1003 : x4_1 < (l0.length : Int)
 {
 rw [if_pos c1003] at H
 have c1003b0 : decide (x4_1 < (l0.length : Int)) = true := decide_eq_true c1003
 clear c1003
 by_cases c1004 : 0 ≤ x4_1
 {
 rw [if_pos c1004] at H
 have c1004b0 : decide (0 ≤ x4_1) = true := decide_eq_true c1004
 clear c1004
 replace H := Option.bind_eq_some_iff.mp H
 obtain ⟨⟨t183, t184, t185, t186, t187, t188, t189, t190, t191, t192, t193, t194⟩, A10050, H⟩ := H
 replace H : (if x4_1 < (x3_1.length : Int) then (laws_toRuleS.l0 k1 l0 (x3_1.set (x4_1 : Int).toNat (⟨t183, t184, t185, (⟨t186, t187⟩ : S31), t188, t189, (⟨t190, t191⟩ : S31), t192, t193, t194⟩ : S33)) (wrap64 (x4_1 + 1))) else (none)) = some r := H
 have A1005 := Aside0.mk A10050
 clear A10050
 by_cases c1006 : x4_1 < (x3_1.length : Int)
 {
 rw [if_pos c1006] at H
 have c1006b0 : decide (x4_1 < (x3_1.length : Int)) = true := decide_eq_true c1006
 clear c1006
 obtain ⟨y195, hy195⟩ : ∃ y_ : List (S33), y_ = (x3_1.set (x4_1 : Int).toNat (⟨t183, t184, t185, (⟨t186, t187⟩ : S31), t188, t189, (⟨t190, t191⟩ : S31), t192, t193, t194⟩ : S33)) := ⟨_, rfl⟩
 replace H : (laws_toRuleS.l0 k1 l0 y195 (wrap64 (x4_1 + 1))) = some r := by first | (rw [hy195]; with_reducible exact H) | (have H2_ := (Option.bind_some _ _).symm.trans H; rw [hy195]; with_reducible exact H2_) | (have H2_ := (Option.bind_some _ _).symm.trans H; with_reducible exact H2_) | with_reducible exact H | (rw [hy195]; exact H) | exact H
 have Ny195 := Aside0.mk hy195
 clear hy195
 have H' := Aside0.mk H
 clear H
 have p182 : 0 ≤ (x4_1 : Int) := of_decide_eq_true (by first | (with_reducible assumption) | assumption)
 have q182 : x4_1 < (l0.length : Int) := of_decide_eq_true (by first | (with_reducible assumption) | assumption)
 obtain ⟨ad182, e182, hx182_0, hx182_1, hx182_2, hx182_3, hx182_4, hx182_5, hx182_6, hx182_7, hx182_8, hx182_9, hx182_10, hx182_11⟩ := at_T41 HR0.out x4_1 p182 q182
 cases e182
 replace hx182_0 := (HB.out.cell (World.block_lt_of_cell? w _ hx182_0)).trans hx182_0
 replace hx182_1 := (HB.out.cell (World.block_lt_of_cell? w _ hx182_1)).trans hx182_1
 replace hx182_2 := (HB.out.cell (World.block_lt_of_cell? w _ hx182_2)).trans hx182_2
 replace hx182_3 := (HB.out.cell (World.block_lt_of_cell? w _ hx182_3)).trans hx182_3
 replace hx182_4 := (HB.out.cell (World.block_lt_of_cell? w _ hx182_4)).trans hx182_4
 replace hx182_5 := (HB.out.cell (World.block_lt_of_cell? w _ hx182_5)).trans hx182_5
 replace hx182_6 := (HB.out.cell (World.block_lt_of_cell? w _ hx182_6)).trans hx182_6
 replace hx182_7 := (HB.out.cell (World.block_lt_of_cell? w _ hx182_7)).trans hx182_7
 replace hx182_8 := (HB.out.cell (World.block_lt_of_cell? w _ hx182_8)).trans hx182_8
 replace hx182_9 := (HB.out.cell (World.block_lt_of_cell? w _ hx182_9)).trans hx182_9
 replace hx182_10 := (HB.out.cell (World.block_lt_of_cell? w _ hx182_10)).trans hx182_10
 replace hx182_11 := (HB.out.cell (World.block_lt_of_cell? w _ hx182_11)).trans hx182_11
 replace p182 := eq_true p182
 replace q182 := eq_true q182
 go_wp2_with (first | ((with_reducible refine gate_callee (f := 13) rfl ?_); refine goesL_ (some 20) rfl rfl Tryd.func13 (by kernel_rfl) rfl #[.agg #[.int .i64 ((rd_T41 l0 x4_1).f0), .int .i64 ((rd_T41 l0 x4_1).f1), .int .i64 ((rd_T41 l0 x4_1).f2), .int .i64 ((rd_T41 l0 x4_1).f3.f0), .int .i64 ((rd_T41 l0 x4_1).f3.f1), .int .i64 ((rd_T41 l0 x4_1).f4), .int .i64 ((rd_T41 l0 x4_1).f5), .int .i64 ((rd_T41 l0 x4_1).f6.f0), .int .i64 ((rd_T41 l0 x4_1).f6.f1), .int .i64 ((rd_T41 l0 x4_1).f7), .int .i64 ((rd_T41 l0 x4_1).f8), .int .i64 ((rd_T41 l0 x4_1).f9)]] rfl wT ?_; (with_reducible refine (laws_toRule.calls ((rd_T41 l0 x4_1).f0) ((rd_T41 l0 x4_1).f1) ((rd_T41 l0 x4_1).f2) ((rd_T41 l0 x4_1).f3.f0) ((rd_T41 l0 x4_1).f3.f1) ((rd_T41 l0 x4_1).f4) ((rd_T41 l0 x4_1).f5) ((rd_T41 l0 x4_1).f6.f0) ((rd_T41 l0 x4_1).f6.f1) ((rd_T41 l0 x4_1).f7) ((rd_T41 l0 x4_1).f8) ((rd_T41 l0 x4_1).f9) t183 t184 t185 t186 t187 t188 t189 t190 t191 t192 t193 t194 _ A1005.out).mono ?_); rintro e w2001 ⟨rfl, hb⟩; refine ⟨_, rfl, ?_⟩; have n0_ := Aside0.mk (Kd.R_below (Rh HO_3) hb); have n1_ := Aside0.mk (below_step wB hb); clear HO_3; clear HB; have HO_3 := n0_; have HB := n1_; clear n0_ n1_; (try clear hb); (try clear hb2); (try clear hk); (try clear hi); have p1007 : 0 ≤ (x4_1 : Int) := of_decide_eq_true (by first | (with_reducible assumption) | assumption); have q1007 : (x4_1 : Int) < ((x3_1.length : Int) : Int) := of_decide_eq_true (by first | (with_reducible assumption) | assumption); obtain ⟨go1007, co1007, eo1007, gb1007, gl1007, cl1007, HG1007⟩ := Kd.R_form HO_3.out (by omega); (first | cases eo1007 | (injection eo1007 with ea_ en_ ec_; (first | subst ea_ | (injection ea_ with ea_; subst ea_)); subst ec_; clear en_)); have GB1007 := Aside0.mk gb1007; have GG1007 := Aside0.mk HG1007; clear gb1007 gl1007 HG1007; obtain ⟨ce1007, hcl1007, hM1007, hcc1007, hfr1007⟩ := Kd.R_elem HO_3.out z33 (x4_1 : Int) p1007 q1007; obtain rfl := k33_openM hM1007; have hx1007_0 : w2001.cell? ⟨go1007, (x4_1 : Int).toNat * 12, none⟩ = some (.int .i64 ((rd_T33 x3_1 x4_1).f0)) := hcc1007 0 _ rfl; have hx1007_1 : w2001.cell? ⟨go1007, (x4_1 : Int).toNat * 12 + 1, none⟩ = some (.int .i64 ((rd_T33 x3_1 x4_1).f1)) := hcc1007 1 _ rfl; have hx1007_2 : w2001.cell? ⟨go1007, (x4_1 : Int).toNat * 12 + 2, none⟩ = some (.int .i64 ((rd_T33 x3_1 x4_1).f2)) := hcc1007 2 _ rfl; have hx1007_3 : w2001.cell? ⟨go1007, (x4_1 : Int).toNat * 12 + 3, none⟩ = some (.int .i64 ((rd_T33 x3_1 x4_1).f3.f0)) := hcc1007 3 _ rfl; have hx1007_4 : w2001.cell? ⟨go1007, (x4_1 : Int).toNat * 12 + 4, none⟩ = some (.int .i64 ((rd_T33 x3_1 x4_1).f3.f1)) := hcc1007 4 _ rfl; have hx1007_5 : w2001.cell? ⟨go1007, (x4_1 : Int).toNat * 12 + 5, none⟩ = some (.int .i64 ((rd_T33 x3_1 x4_1).f4)) := hcc1007 5 _ rfl; have hx1007_6 : w2001.cell? ⟨go1007, (x4_1 : Int).toNat * 12 + 6, none⟩ = some (.int .i64 ((rd_T33 x3_1 x4_1).f5)) := hcc1007 6 _ rfl; have hx1007_7 : w2001.cell? ⟨go1007, (x4_1 : Int).toNat * 12 + 7, none⟩ = some (.int .i64 ((rd_T33 x3_1 x4_1).f6.f0)) := hcc1007 7 _ rfl; have hx1007_8 : w2001.cell? ⟨go1007, (x4_1 : Int).toNat * 12 + 8, none⟩ = some (.int .i64 ((rd_T33 x3_1 x4_1).f6.f1)) := hcc1007 8 _ rfl; have hx1007_9 : w2001.cell? ⟨go1007, (x4_1 : Int).toNat * 12 + 9, none⟩ = some (.int .i64 ((rd_T33 x3_1 x4_1).f7)) := hcc1007 9 _ rfl; have hx1007_10 : w2001.cell? ⟨go1007, (x4_1 : Int).toNat * 12 + 10, none⟩ = some (.int .i64 ((rd_T33 x3_1 x4_1).f8)) := hcc1007 10 _ rfl; have hx1007_11 : w2001.cell? ⟨go1007, (x4_1 : Int).toNat * 12 + 11, none⟩ = some (.int .i64 ((rd_T33 x3_1 x4_1).f9)) := hcc1007 11 _ rfl; have hf1007_0 : w2001.frozen? ⟨go1007, (x4_1 : Int).toNat * 12, none⟩ = false := hfr1007 0; have hf1007_1 : w2001.frozen? ⟨go1007, (x4_1 : Int).toNat * 12 + 1, none⟩ = false := hfr1007 1; have hf1007_2 : w2001.frozen? ⟨go1007, (x4_1 : Int).toNat * 12 + 2, none⟩ = false := hfr1007 2; have hf1007_3 : w2001.frozen? ⟨go1007, (x4_1 : Int).toNat * 12 + 3, none⟩ = false := hfr1007 3; have hf1007_4 : w2001.frozen? ⟨go1007, (x4_1 : Int).toNat * 12 + 4, none⟩ = false := hfr1007 4; have hf1007_5 : w2001.frozen? ⟨go1007, (x4_1 : Int).toNat * 12 + 5, none⟩ = false := hfr1007 5; have hf1007_6 : w2001.frozen? ⟨go1007, (x4_1 : Int).toNat * 12 + 6, none⟩ = false := hfr1007 6; have hf1007_7 : w2001.frozen? ⟨go1007, (x4_1 : Int).toNat * 12 + 7, none⟩ = false := hfr1007 7; have hf1007_8 : w2001.frozen? ⟨go1007, (x4_1 : Int).toNat * 12 + 8, none⟩ = false := hfr1007 8; have hf1007_9 : w2001.frozen? ⟨go1007, (x4_1 : Int).toNat * 12 + 9, none⟩ = false := hfr1007 9; have hf1007_10 : w2001.frozen? ⟨go1007, (x4_1 : Int).toNat * 12 + 10, none⟩ = false := hfr1007 10; have hf1007_11 : w2001.frozen? ⟨go1007, (x4_1 : Int).toNat * 12 + 11, none⟩ = false := hfr1007 11; clear hcl1007 hcc1007 hfr1007 hM1007; replace p1007 := eq_true p1007; replace q1007 := eq_true q1007; have HX2002 := Aside0.mk (show Kd.R k33 33 w2001 w.heap.size (fun _ => True) (.slice (some ⟨go1007, 0, none⟩) x3_1.length co1007) x3_1 from (Rh HO_3)); obtain ⟨ce2002, hcl2002, hM2002, hcc2002, hfr2002⟩ := Kd.R_elem HX2002.out z33 (x4_1 : Int) (of_decide_eq_true (by first | (with_reducible assumption) | assumption)) (by have h_ : (x4_1 : Int) < ((x3_1.length : Int) : Int) := of_decide_eq_true (by first | (with_reducible assumption) | assumption); first | exact h_ | (have e_ := (Kd.R_reads' HO_3.out).1; omega) | simpa using h_); obtain rfl := k33_openM hM2002; have HP2002 := Kd.R_seg HX2002.out (x4_1 : Int) (of_decide_eq_true (by first | (with_reducible assumption) | assumption)) (by have h_ : (x4_1 : Int) < ((x3_1.length : Int) : Int) := of_decide_eq_true (by first | (with_reducible assumption) | assumption); first | exact h_ | (have e_ := (Kd.R_reads' HO_3.out).1; omega) | simpa using h_) (seg := [.int .i64 t183, .int .i64 t184, .int .i64 t185, .int .i64 t186, .int .i64 t187, .int .i64 t188, .int .i64 t189, .int .i64 t190, .int .i64 t191, .int .i64 t192, .int .i64 t193, .int .i64 t194]) (j := 0) hcl2002 hcc2002 (show 12 ≤ 12 from by decide) (x' := (⟨t183, t184, t185, (⟨t186, t187⟩ : S31), t188, t189, (⟨t190, t191⟩ : S31), t192, t193, t194⟩ : S33)) (k33_mkM _ _ _ (⟨t183, t184, t185, (⟨t186, t187⟩ : S31), t188, t189, (⟨t190, t191⟩ : S31), t192, t193, t194⟩ : S33) ) (fun _ hk => hk); have hx2002_0 := hcc2002 0 _ rfl; (try simp only [show (k33).sz = 12 from rfl, Nat.mul_one, Nat.add_zero] at hx2002_0); have hf2002_0 := hfr2002 0; (try simp only [show (k33).sz = 12 from rfl, Nat.mul_one, Nat.add_zero] at hf2002_0); have hx2002_1 := hcc2002 1 _ rfl; (try simp only [show (k33).sz = 12 from rfl, Nat.mul_one, Nat.add_zero] at hx2002_1); have hf2002_1 := hfr2002 1; (try simp only [show (k33).sz = 12 from rfl, Nat.mul_one, Nat.add_zero] at hf2002_1); have hx2002_2 := hcc2002 2 _ rfl; (try simp only [show (k33).sz = 12 from rfl, Nat.mul_one, Nat.add_zero] at hx2002_2); have hf2002_2 := hfr2002 2; (try simp only [show (k33).sz = 12 from rfl, Nat.mul_one, Nat.add_zero] at hf2002_2); have hx2002_3 := hcc2002 3 _ rfl; (try simp only [show (k33).sz = 12 from rfl, Nat.mul_one, Nat.add_zero] at hx2002_3); have hf2002_3 := hfr2002 3; (try simp only [show (k33).sz = 12 from rfl, Nat.mul_one, Nat.add_zero] at hf2002_3); have hx2002_4 := hcc2002 4 _ rfl; (try simp only [show (k33).sz = 12 from rfl, Nat.mul_one, Nat.add_zero] at hx2002_4); have hf2002_4 := hfr2002 4; (try simp only [show (k33).sz = 12 from rfl, Nat.mul_one, Nat.add_zero] at hf2002_4); have hx2002_5 := hcc2002 5 _ rfl; (try simp only [show (k33).sz = 12 from rfl, Nat.mul_one, Nat.add_zero] at hx2002_5); have hf2002_5 := hfr2002 5; (try simp only [show (k33).sz = 12 from rfl, Nat.mul_one, Nat.add_zero] at hf2002_5); have hx2002_6 := hcc2002 6 _ rfl; (try simp only [show (k33).sz = 12 from rfl, Nat.mul_one, Nat.add_zero] at hx2002_6); have hf2002_6 := hfr2002 6; (try simp only [show (k33).sz = 12 from rfl, Nat.mul_one, Nat.add_zero] at hf2002_6); have hx2002_7 := hcc2002 7 _ rfl; (try simp only [show (k33).sz = 12 from rfl, Nat.mul_one, Nat.add_zero] at hx2002_7); have hf2002_7 := hfr2002 7; (try simp only [show (k33).sz = 12 from rfl, Nat.mul_one, Nat.add_zero] at hf2002_7); have hx2002_8 := hcc2002 8 _ rfl; (try simp only [show (k33).sz = 12 from rfl, Nat.mul_one, Nat.add_zero] at hx2002_8); have hf2002_8 := hfr2002 8; (try simp only [show (k33).sz = 12 from rfl, Nat.mul_one, Nat.add_zero] at hf2002_8); have hx2002_9 := hcc2002 9 _ rfl; (try simp only [show (k33).sz = 12 from rfl, Nat.mul_one, Nat.add_zero] at hx2002_9); have hf2002_9 := hfr2002 9; (try simp only [show (k33).sz = 12 from rfl, Nat.mul_one, Nat.add_zero] at hf2002_9); have hx2002_10 := hcc2002 10 _ rfl; (try simp only [show (k33).sz = 12 from rfl, Nat.mul_one, Nat.add_zero] at hx2002_10); have hf2002_10 := hfr2002 10; (try simp only [show (k33).sz = 12 from rfl, Nat.mul_one, Nat.add_zero] at hf2002_10); have hx2002_11 := hcc2002 11 _ rfl; (try simp only [show (k33).sz = 12 from rfl, Nat.mul_one, Nat.add_zero] at hx2002_11); have hf2002_11 := hfr2002 11; (try simp only [show (k33).sz = 12 from rfl, Nat.mul_one, Nat.add_zero] at hf2002_11); clear hcl2002 hcc2002 hfr2002 hM2002) | ((with_reducible refine gate_store (t := 33) (p := 21) rfl ?_); refine store_event (t := 33) (p := 21) (v := ?_) (w1 := ((((((((((((w2001.setCell ⟨go1007, (x4_1 : Int).toNat * 12, none⟩ (.int .i64 t183)).setCell ⟨go1007, (x4_1 : Int).toNat * 12 + 1, none⟩ (.int .i64 t184)).setCell ⟨go1007, (x4_1 : Int).toNat * 12 + 2, none⟩ (.int .i64 t185)).setCell ⟨go1007, (x4_1 : Int).toNat * 12 + 3, none⟩ (.int .i64 t186)).setCell ⟨go1007, (x4_1 : Int).toNat * 12 + 4, none⟩ (.int .i64 t187)).setCell ⟨go1007, (x4_1 : Int).toNat * 12 + 5, none⟩ (.int .i64 t188)).setCell ⟨go1007, (x4_1 : Int).toNat * 12 + 6, none⟩ (.int .i64 t189)).setCell ⟨go1007, (x4_1 : Int).toNat * 12 + 7, none⟩ (.int .i64 t190)).setCell ⟨go1007, (x4_1 : Int).toNat * 12 + 8, none⟩ (.int .i64 t191)).setCell ⟨go1007, (x4_1 : Int).toNat * 12 + 9, none⟩ (.int .i64 t192)).setCell ⟨go1007, (x4_1 : Int).toNat * 12 + 10, none⟩ (.int .i64 t193)).setCell ⟨go1007, (x4_1 : Int).toNat * 12 + 11, none⟩ (.int .i64 t194))) ?hg ?ho ?hn ?hr ?_; (case ho => rfl); (case hg => rfl); (case hn => rfl); (case hr => first | (go_simp; done) | (go_simp; rfl)); intro w2003 hw; have hg : w2001.grownBy w2003 (some go1007) := (by rw [hw]; exact HP2002.2); have hp_ : Kd.R k33 33 w2003 w.heap.size (fun _ => True) (.slice (some ⟨go1007, 0, none⟩) x3_1.length co1007) y195 := (by rw [hw, Ny195.out]; exact HP2002.1); clear HP2002; have n0_ := Aside0.mk (hp_); have n1_ := Aside0.mk ((by rw [hw]; exact below_set (below_set (below_set (below_set (below_set (below_set (below_set (below_set (below_set (below_set (below_set (below_set (HB.out) GB1007.out) GB1007.out) GB1007.out) GB1007.out) GB1007.out) GB1007.out) GB1007.out) GB1007.out) GB1007.out) GB1007.out) GB1007.out) GB1007.out : Below w.heap.size w w2003)); clear HO_3; clear HB; have HO_3 := n0_; have HB := n1_; clear n0_ n1_; clear hg hw hp_))
 go_roundg k1
 case measure => have := HK1.out; omega
 case rel => exact ⟨(y195), (wrap64 (x4_1 + 1)), (by first | rfl | (simp; done) | (simp [*]; done)), H', ⟨by have := HK1.out; omega⟩, ⟨Rh HO_3⟩, ⟨wB⟩⟩
 }
 {
 rw [if_neg c1006] at H
 exact absurd H (by simp)
 }
 }
 {
 rw [if_neg c1004] at H
 exact absurd H (by simp)
 }
 }
 {
 rw [if_neg c1003] at H
 have c1003b0 : decide (x4_1 < (l0.length : Int)) = false := decide_eq_false c1003
 clear c1003
 obtain rfl := Option.some.inj H
 go_wp2
 go_ret
 exact ⟨_, by first | rfl | (simp [errW_none, errW_some] <;> rfl) | (simp [*, errW_none, errW_some] <;> rfl), by (with_reducible repeat (first | apply Kd.R_alloc | apply Kd.R_drewN | apply Kd.R_drew)); exact HO_3.out, wB⟩
 }
 }
 )
 }
 {
 rw [if_neg c3] at H
 exact absurd H (by simp)
 }
 }
 {
 rw [if_neg c2] at H
 exact absurd H (by simp)
 }

/-! ### impl_isAddr: function 33 -/
def impl_isAddr.f (a0 : Int) : Option (Bool) := if a0 ≥ 0 then (some (decide (a0 ≤ 4294967295))) else (some false)
set_option maxHeartbeats 60000000 in
set_option maxRecDepth 100000 in
theorem impl_isAddr.calls (a0 : Int) (r : Bool) (w : World) (h : impl_isAddr.f a0 = some r) :
    Calls Tryd.prog 33 #[.int .i64 a0] w fun e w' => e = .returned (.bool r) ∧ Drawn0 w w' := by
  have H : (if a0 ≥ 0 then (some (decide (a0 ≤ 4294967295))) else (some false)) = some r := h
  clear h
  by_cases c2 : a0 ≥ 0
  · rw [if_pos c2] at H
    have c2b0 : decide (0 ≤ a0) = true := decide_eq_true c2
    clear c2
    obtain rfl := Option.some.inj H
    go_enter Tryd.func33, Tryd.ntmps33
    go_wp2
    go_ret
    exact ⟨by first | rfl | (simp; done) | (simp [*]; done), by repeat (first | exact Drawn0.refl _ | apply Drawn0.step)⟩
  · rw [if_neg c2] at H
    have c2b0 : decide (0 ≤ a0) = false := decide_eq_false c2
    clear c2
    obtain rfl := Option.some.inj H
    go_enter Tryd.func33, Tryd.ntmps33
    go_wp2
    go_ret
    exact ⟨by first | rfl | (simp; done) | (simp [*]; done), by repeat (first | exact Drawn0.refl _ | apply Drawn0.step)⟩

/-! ### impl_mask: function 34 -/
def impl_mask.f (a0 : Int) : Option (Int) := if 0 ≤ (wrap64 (32 - a0)) then (some (shl .i64 (shr .i64 4294967295 (wrap64 (32 - a0))) (wrap64 (32 - a0)))) else (none)
set_option maxHeartbeats 60000000 in
set_option maxRecDepth 100000 in
theorem impl_mask.calls (a0 : Int) (r : Int) (w : World) (h : impl_mask.f a0 = some r) :
    Calls Tryd.prog 34 #[.int .i64 a0] w fun e w' => e = .returned (.int .i64 r) ∧ Drawn0 w w' := by
  have H : (if 0 ≤ (wrap64 (32 - a0)) then (some (shl .i64 (shr .i64 4294967295 (wrap64 (32 - a0))) (wrap64 (32 - a0)))) else (none)) = some r := h
  clear h
  obtain ⟨ji2, hji2⟩ : ∃ j_ : Int, (wrap64 (32 - a0)) = j_ := ⟨_, rfl⟩
  replace H : (if 0 ≤ (ji2) then (some (shl .i64 (shr .i64 4294967295 (ji2)) (ji2))) else (none)) = some r := by first | (rw [hji2] at H; exact H) | (simp only [hji2] at H ⊢; exact H)
  have hji2w : (IntKind.i64.wrap (32 - a0)) = ji2 := (i64_w _).trans hji2
  by_cases c3 : 0 ≤ (ji2)
  · rw [if_pos c3] at H
    have c3b0 := eq_true c3
    have c3b1 : decide (0 ≤ (ji2)) = true := decide_eq_true c3
    clear c3
    obtain ⟨ji4, hji4⟩ : ∃ j_ : Int, (shr .i64 4294967295 (ji2)) = j_ := ⟨_, rfl⟩
    replace H : (some (shl .i64 (ji4) (ji2))) = some r := by first | (rw [hji4] at H; exact H) | (simp only [hji4] at H ⊢; exact H)
    have hji4_ : (4294967295 / 2 ^ min (ji2).toNat 64) = ji4 := hji4
    have hji4z : (ji2) ≤ 64 → (4294967295 / 2 ^ (ji2).toNat) = ji4 := shr_small hji4
    have c5b0 := eq_true (of_decide_eq_true (by first | (with_reducible assumption) | assumption) : 0 ≤ (ji2))
    obtain ⟨ji6, hji6⟩ : ∃ j_ : Int, (shl .i64 (ji4) (ji2)) = j_ := ⟨_, rfl⟩
    replace H : (some ji6) = some r := by first | (rw [hji6] at H; exact H) | (simp only [hji6] at H ⊢; exact H)
    have hji6_ : (IntKind.i64.wrap ((ji4) * 2 ^ min (ji2).toNat 64)) = ji6 := hji6
    have hji6z : (ji2) ≤ 64 → (IntKind.i64.wrap ((ji4) * 2 ^ (ji2).toNat)) = ji6 := shl_small hji6
    have hji6y : (wrap64 ((ji4) * 2 ^ min (ji2).toNat 64)) = ji6 := (i64_w _).symm.trans hji6_
    have hji6x : (ji2) ≤ 64 → (wrap64 ((ji4) * 2 ^ (ji2).toNat)) = ji6 := fun h_ => (i64_w _).symm.trans (hji6z h_)
    obtain rfl := Option.some.inj H
    go_enter Tryd.func34, Tryd.ntmps34
    go_wp2
    go_ret
    exact ⟨by first | rfl | (simp; done) | (simp only [← hji2, ← hji4, ← hji6] <;> (first | rfl | (simp; done) | (simp [i64_w]; done) | simp)) | (simp [*]; done), by repeat (first | exact Drawn0.refl _ | apply Drawn0.step)⟩
  · rw [if_neg c3] at H
    exact absurd H (by simp)

/-! ### impl_okPrefix: function 25 -/
def impl_okPrefix.f (a0_0 : Int) (a0_1 : Int) : Option (Bool) := (impl_isAddr.f a0_0).bind fun t197 => (if t197 = true then (if a0_1 ≥ 0 then (if a0_1 ≤ 32 then ((impl_mask.f a0_1).bind fun t198 => (some ((Go.bits .and .i64 a0_0 t198) == a0_0))) else (some false)) else (some false)) else (some false))
set_option maxHeartbeats 60000000 in
set_option maxRecDepth 100000 in
theorem impl_okPrefix.calls (a0_0 : Int) (a0_1 : Int) (r : Bool) (w : World) (h : impl_okPrefix.f a0_0 a0_1 = some r) :
    Calls Tryd.prog 25 #[.agg #[.int .i64 a0_0, .int .i64 a0_1]] w fun e w' => e = .returned (.bool r) ∧ Below w.heap.size w w' := by
  have hu31 := Tryd.underlying31
  have HB := Aside0.mk (Below.refl w.heap.size w)
  have H : ((impl_isAddr.f a0_0).bind fun t197 => (if t197 = true then (if a0_1 ≥ 0 then (if a0_1 ≤ 32 then ((impl_mask.f a0_1).bind fun t198 => (some ((Go.bits .and .i64 a0_0 t198) == a0_0))) else (some false)) else (some false)) else (some false))) = some r := h
  clear h
  replace H := Option.bind_eq_some_iff.mp H
  obtain ⟨t197, A20, H⟩ := H
  replace H : (if t197 = true then (if a0_1 ≥ 0 then (if a0_1 ≤ 32 then ((impl_mask.f a0_1).bind fun t198 => (some ((Go.bits .and .i64 a0_0 t198) == a0_0))) else (some false)) else (some false)) else (some false)) = some r := H
  have A2 := Aside0.mk A20
  clear A20
  by_cases c3 : t197 = true
  · subst c3
    have H1 : (if a0_1 ≥ 0 then (if a0_1 ≤ 32 then ((impl_mask.f a0_1).bind fun t198 => (some ((Go.bits .and .i64 a0_0 t198) == a0_0))) else (some false)) else (some false)) = some r := by rw [if_pos rfl] at H; exact H
    clear H
    have H := H1
    clear H1
    by_cases c4 : a0_1 ≥ 0
    · rw [if_pos c4] at H
      have c4b0 : decide (0 ≤ a0_1) = true := decide_eq_true c4
      clear c4
      by_cases c5 : a0_1 ≤ 32
      · rw [if_pos c5] at H
        have c5b0 : decide (a0_1 ≤ 32) = true := decide_eq_true c5
        clear c5
        replace H := Option.bind_eq_some_iff.mp H
        obtain ⟨t198, A60, H⟩ := H
        replace H : (some ((Go.bits .and .i64 a0_0 t198) == a0_0)) = some r := H
        have A6 := Aside0.mk A60
        clear A60
        obtain rfl := Option.some.inj H
        go_enter Tryd.func25, Tryd.ntmps25
        go_wp2_with (first | ((with_reducible refine gate_dst (N := 1) rfl ?_); refine box_event ?hg (N := 1) ?hd (cs := #[.int .i64 a0_0, .int .i64 a0_1]) (t := 31) ?hr ?_; (case hd => rfl); (case hg => rfl); (case hr => first | (go_simp; done) | (go_simp; rfl)); intro gb196 hg w1001 hbox hb; have n0_ := Aside0.mk (below_step wB hb); have n1_ := Aside0.mk (hbox); have n2_ := Aside0.mk ((by rw [hg]; exact (below_size wB) : w.heap.size ≤ gb196)); have n3_ := Aside0.mk ((by rw [hg]; exact (below_size wB) : w.heap.size ≤ gb196)); clear HB; have HB := n0_; have BK196 := n1_; have GW196 := n2_; have GE196 := n3_; clear n0_ n1_ n2_ n3_; clear hb hbox hg; obtain ⟨⟨hcz1002_0, hcz1002_1⟩, hfz1002_0, hfz1002_1⟩ := cells2 BK196.out) | (go_at_call 33; (with_reducible refine (impl_isAddr.calls a0_0 true _ A2.out).mono ?_); rintro e w' ⟨rfl, ⟨nd, rfl⟩⟩; (try first | exact ⟨rfl, _, World.drewN_drewN _ _ _⟩ | exact ⟨rfl, _, Eq.trans (World.drewN_drewN _ _ _) (congrArg (World.drewN _) (Nat.add_assoc _ _ _))⟩)) | (go_at_call 34; (with_reducible refine (impl_mask.calls a0_1 t198 _ A6.out).mono ?_); rintro e w' ⟨rfl, ⟨nd, rfl⟩⟩; (try first | exact ⟨rfl, _, World.drewN_drewN _ _ _⟩ | exact ⟨rfl, _, Eq.trans (World.drewN_drewN _ _ _) (congrArg (World.drewN _) (Nat.add_assoc _ _ _))⟩)))
        repeat (go_quiet (first | ((with_reducible refine gate_dst (N := 1) rfl ?_); refine box_event ?hg (N := 1) ?hd (cs := #[.int .i64 a0_0, .int .i64 a0_1]) (t := 31) ?hr ?_; (case hd => rfl); (case hg => rfl); (case hr => first | (go_simp; done) | (go_simp; rfl)); intro gb196 hg w1001 hbox hb; have n0_ := Aside0.mk (below_step wB hb); have n1_ := Aside0.mk (hbox); have n2_ := Aside0.mk ((by rw [hg]; exact (below_size wB) : w.heap.size ≤ gb196)); have n3_ := Aside0.mk ((by rw [hg]; exact (below_size wB) : w.heap.size ≤ gb196)); clear HB; have HB := n0_; have BK196 := n1_; have GW196 := n2_; have GE196 := n3_; clear n0_ n1_ n2_ n3_; clear hb hbox hg; obtain ⟨⟨hcz1002_0, hcz1002_1⟩, hfz1002_0, hfz1002_1⟩ := cells2 BK196.out) | (go_at_call 33; (with_reducible refine (impl_isAddr.calls a0_0 true _ A2.out).mono ?_); rintro e w' ⟨rfl, ⟨nd, rfl⟩⟩; (try first | exact ⟨rfl, _, World.drewN_drewN _ _ _⟩ | exact ⟨rfl, _, Eq.trans (World.drewN_drewN _ _ _) (congrArg (World.drewN _) (Nat.add_assoc _ _ _))⟩)) | (go_at_call 34; (with_reducible refine (impl_mask.calls a0_1 t198 _ A6.out).mono ?_); rintro e w' ⟨rfl, ⟨nd, rfl⟩⟩; (try first | exact ⟨rfl, _, World.drewN_drewN _ _ _⟩ | exact ⟨rfl, _, Eq.trans (World.drewN_drewN _ _ _) (congrArg (World.drewN _) (Nat.add_assoc _ _ _))⟩))); try go_wp2_with (first | ((with_reducible refine gate_dst (N := 1) rfl ?_); refine box_event ?hg (N := 1) ?hd (cs := #[.int .i64 a0_0, .int .i64 a0_1]) (t := 31) ?hr ?_; (case hd => rfl); (case hg => rfl); (case hr => first | (go_simp; done) | (go_simp; rfl)); intro gb196 hg w1001 hbox hb; have n0_ := Aside0.mk (below_step wB hb); have n1_ := Aside0.mk (hbox); have n2_ := Aside0.mk ((by rw [hg]; exact (below_size wB) : w.heap.size ≤ gb196)); have n3_ := Aside0.mk ((by rw [hg]; exact (below_size wB) : w.heap.size ≤ gb196)); clear HB; have HB := n0_; have BK196 := n1_; have GW196 := n2_; have GE196 := n3_; clear n0_ n1_ n2_ n3_; clear hb hbox hg; obtain ⟨⟨hcz1002_0, hcz1002_1⟩, hfz1002_0, hfz1002_1⟩ := cells2 BK196.out) | (go_at_call 33; (with_reducible refine (impl_isAddr.calls a0_0 true _ A2.out).mono ?_); rintro e w' ⟨rfl, ⟨nd, rfl⟩⟩; (try first | exact ⟨rfl, _, World.drewN_drewN _ _ _⟩ | exact ⟨rfl, _, Eq.trans (World.drewN_drewN _ _ _) (congrArg (World.drewN _) (Nat.add_assoc _ _ _))⟩)) | (go_at_call 34; (with_reducible refine (impl_mask.calls a0_1 t198 _ A6.out).mono ?_); rintro e w' ⟨rfl, ⟨nd, rfl⟩⟩; (try first | exact ⟨rfl, _, World.drewN_drewN _ _ _⟩ | exact ⟨rfl, _, Eq.trans (World.drewN_drewN _ _ _) (congrArg (World.drewN _) (Nat.add_assoc _ _ _))⟩))))
        go_ret
        exact ⟨by first | rfl | (simp [errW_none, errW_some] <;> rfl) | (simp [*, errW_none, errW_some] <;> rfl), wB⟩
      · rw [if_neg c5] at H
        have c5b0 : decide (a0_1 ≤ 32) = false := decide_eq_false c5
        clear c5
        obtain rfl := Option.some.inj H
        go_enter Tryd.func25, Tryd.ntmps25
        go_wp2_with (first | ((with_reducible refine gate_dst (N := 1) rfl ?_); refine box_event ?hg (N := 1) ?hd (cs := #[.int .i64 a0_0, .int .i64 a0_1]) (t := 31) ?hr ?_; (case hd => rfl); (case hg => rfl); (case hr => first | (go_simp; done) | (go_simp; rfl)); intro gb196 hg w1001 hbox hb; have n0_ := Aside0.mk (below_step wB hb); have n1_ := Aside0.mk (hbox); have n2_ := Aside0.mk ((by rw [hg]; exact (below_size wB) : w.heap.size ≤ gb196)); have n3_ := Aside0.mk ((by rw [hg]; exact (below_size wB) : w.heap.size ≤ gb196)); clear HB; have HB := n0_; have BK196 := n1_; have GW196 := n2_; have GE196 := n3_; clear n0_ n1_ n2_ n3_; clear hb hbox hg; obtain ⟨⟨hcz1002_0, hcz1002_1⟩, hfz1002_0, hfz1002_1⟩ := cells2 BK196.out) | (go_at_call 33; (with_reducible refine (impl_isAddr.calls a0_0 true _ A2.out).mono ?_); rintro e w' ⟨rfl, ⟨nd, rfl⟩⟩; (try first | exact ⟨rfl, _, World.drewN_drewN _ _ _⟩ | exact ⟨rfl, _, Eq.trans (World.drewN_drewN _ _ _) (congrArg (World.drewN _) (Nat.add_assoc _ _ _))⟩)))
        repeat (go_quiet (first | ((with_reducible refine gate_dst (N := 1) rfl ?_); refine box_event ?hg (N := 1) ?hd (cs := #[.int .i64 a0_0, .int .i64 a0_1]) (t := 31) ?hr ?_; (case hd => rfl); (case hg => rfl); (case hr => first | (go_simp; done) | (go_simp; rfl)); intro gb196 hg w1001 hbox hb; have n0_ := Aside0.mk (below_step wB hb); have n1_ := Aside0.mk (hbox); have n2_ := Aside0.mk ((by rw [hg]; exact (below_size wB) : w.heap.size ≤ gb196)); have n3_ := Aside0.mk ((by rw [hg]; exact (below_size wB) : w.heap.size ≤ gb196)); clear HB; have HB := n0_; have BK196 := n1_; have GW196 := n2_; have GE196 := n3_; clear n0_ n1_ n2_ n3_; clear hb hbox hg; obtain ⟨⟨hcz1002_0, hcz1002_1⟩, hfz1002_0, hfz1002_1⟩ := cells2 BK196.out) | (go_at_call 33; (with_reducible refine (impl_isAddr.calls a0_0 true _ A2.out).mono ?_); rintro e w' ⟨rfl, ⟨nd, rfl⟩⟩; (try first | exact ⟨rfl, _, World.drewN_drewN _ _ _⟩ | exact ⟨rfl, _, Eq.trans (World.drewN_drewN _ _ _) (congrArg (World.drewN _) (Nat.add_assoc _ _ _))⟩))); try go_wp2_with (first | ((with_reducible refine gate_dst (N := 1) rfl ?_); refine box_event ?hg (N := 1) ?hd (cs := #[.int .i64 a0_0, .int .i64 a0_1]) (t := 31) ?hr ?_; (case hd => rfl); (case hg => rfl); (case hr => first | (go_simp; done) | (go_simp; rfl)); intro gb196 hg w1001 hbox hb; have n0_ := Aside0.mk (below_step wB hb); have n1_ := Aside0.mk (hbox); have n2_ := Aside0.mk ((by rw [hg]; exact (below_size wB) : w.heap.size ≤ gb196)); have n3_ := Aside0.mk ((by rw [hg]; exact (below_size wB) : w.heap.size ≤ gb196)); clear HB; have HB := n0_; have BK196 := n1_; have GW196 := n2_; have GE196 := n3_; clear n0_ n1_ n2_ n3_; clear hb hbox hg; obtain ⟨⟨hcz1002_0, hcz1002_1⟩, hfz1002_0, hfz1002_1⟩ := cells2 BK196.out) | (go_at_call 33; (with_reducible refine (impl_isAddr.calls a0_0 true _ A2.out).mono ?_); rintro e w' ⟨rfl, ⟨nd, rfl⟩⟩; (try first | exact ⟨rfl, _, World.drewN_drewN _ _ _⟩ | exact ⟨rfl, _, Eq.trans (World.drewN_drewN _ _ _) (congrArg (World.drewN _) (Nat.add_assoc _ _ _))⟩))))
        go_ret
        exact ⟨by first | rfl | (simp [errW_none, errW_some] <;> rfl) | (simp [*, errW_none, errW_some] <;> rfl), wB⟩
    · rw [if_neg c4] at H
      have c4b0 : decide (0 ≤ a0_1) = false := decide_eq_false c4
      clear c4
      obtain rfl := Option.some.inj H
      go_enter Tryd.func25, Tryd.ntmps25
      go_wp2_with (first | ((with_reducible refine gate_dst (N := 1) rfl ?_); refine box_event ?hg (N := 1) ?hd (cs := #[.int .i64 a0_0, .int .i64 a0_1]) (t := 31) ?hr ?_; (case hd => rfl); (case hg => rfl); (case hr => first | (go_simp; done) | (go_simp; rfl)); intro gb196 hg w1001 hbox hb; have n0_ := Aside0.mk (below_step wB hb); have n1_ := Aside0.mk (hbox); have n2_ := Aside0.mk ((by rw [hg]; exact (below_size wB) : w.heap.size ≤ gb196)); have n3_ := Aside0.mk ((by rw [hg]; exact (below_size wB) : w.heap.size ≤ gb196)); clear HB; have HB := n0_; have BK196 := n1_; have GW196 := n2_; have GE196 := n3_; clear n0_ n1_ n2_ n3_; clear hb hbox hg; obtain ⟨⟨hcz1002_0, hcz1002_1⟩, hfz1002_0, hfz1002_1⟩ := cells2 BK196.out) | (go_at_call 33; (with_reducible refine (impl_isAddr.calls a0_0 true _ A2.out).mono ?_); rintro e w' ⟨rfl, ⟨nd, rfl⟩⟩; (try first | exact ⟨rfl, _, World.drewN_drewN _ _ _⟩ | exact ⟨rfl, _, Eq.trans (World.drewN_drewN _ _ _) (congrArg (World.drewN _) (Nat.add_assoc _ _ _))⟩)))
      repeat (go_quiet (first | ((with_reducible refine gate_dst (N := 1) rfl ?_); refine box_event ?hg (N := 1) ?hd (cs := #[.int .i64 a0_0, .int .i64 a0_1]) (t := 31) ?hr ?_; (case hd => rfl); (case hg => rfl); (case hr => first | (go_simp; done) | (go_simp; rfl)); intro gb196 hg w1001 hbox hb; have n0_ := Aside0.mk (below_step wB hb); have n1_ := Aside0.mk (hbox); have n2_ := Aside0.mk ((by rw [hg]; exact (below_size wB) : w.heap.size ≤ gb196)); have n3_ := Aside0.mk ((by rw [hg]; exact (below_size wB) : w.heap.size ≤ gb196)); clear HB; have HB := n0_; have BK196 := n1_; have GW196 := n2_; have GE196 := n3_; clear n0_ n1_ n2_ n3_; clear hb hbox hg; obtain ⟨⟨hcz1002_0, hcz1002_1⟩, hfz1002_0, hfz1002_1⟩ := cells2 BK196.out) | (go_at_call 33; (with_reducible refine (impl_isAddr.calls a0_0 true _ A2.out).mono ?_); rintro e w' ⟨rfl, ⟨nd, rfl⟩⟩; (try first | exact ⟨rfl, _, World.drewN_drewN _ _ _⟩ | exact ⟨rfl, _, Eq.trans (World.drewN_drewN _ _ _) (congrArg (World.drewN _) (Nat.add_assoc _ _ _))⟩))); try go_wp2_with (first | ((with_reducible refine gate_dst (N := 1) rfl ?_); refine box_event ?hg (N := 1) ?hd (cs := #[.int .i64 a0_0, .int .i64 a0_1]) (t := 31) ?hr ?_; (case hd => rfl); (case hg => rfl); (case hr => first | (go_simp; done) | (go_simp; rfl)); intro gb196 hg w1001 hbox hb; have n0_ := Aside0.mk (below_step wB hb); have n1_ := Aside0.mk (hbox); have n2_ := Aside0.mk ((by rw [hg]; exact (below_size wB) : w.heap.size ≤ gb196)); have n3_ := Aside0.mk ((by rw [hg]; exact (below_size wB) : w.heap.size ≤ gb196)); clear HB; have HB := n0_; have BK196 := n1_; have GW196 := n2_; have GE196 := n3_; clear n0_ n1_ n2_ n3_; clear hb hbox hg; obtain ⟨⟨hcz1002_0, hcz1002_1⟩, hfz1002_0, hfz1002_1⟩ := cells2 BK196.out) | (go_at_call 33; (with_reducible refine (impl_isAddr.calls a0_0 true _ A2.out).mono ?_); rintro e w' ⟨rfl, ⟨nd, rfl⟩⟩; (try first | exact ⟨rfl, _, World.drewN_drewN _ _ _⟩ | exact ⟨rfl, _, Eq.trans (World.drewN_drewN _ _ _) (congrArg (World.drewN _) (Nat.add_assoc _ _ _))⟩))))
      go_ret
      exact ⟨by first | rfl | (simp [errW_none, errW_some] <;> rfl) | (simp [*, errW_none, errW_some] <;> rfl), wB⟩
  · replace c3 := Bool.eq_false_iff.mpr c3
    subst c3
    have H1 : (some false) = some r := by rw [if_neg (show ¬ (false = true) by decide)] at H; exact H
    clear H
    have H := H1
    clear H1
    obtain rfl := Option.some.inj H
    go_enter Tryd.func25, Tryd.ntmps25
    go_wp2_with (first | ((with_reducible refine gate_dst (N := 1) rfl ?_); refine box_event ?hg (N := 1) ?hd (cs := #[.int .i64 a0_0, .int .i64 a0_1]) (t := 31) ?hr ?_; (case hd => rfl); (case hg => rfl); (case hr => first | (go_simp; done) | (go_simp; rfl)); intro gb196 hg w1001 hbox hb; have n0_ := Aside0.mk (below_step wB hb); have n1_ := Aside0.mk (hbox); have n2_ := Aside0.mk ((by rw [hg]; exact (below_size wB) : w.heap.size ≤ gb196)); have n3_ := Aside0.mk ((by rw [hg]; exact (below_size wB) : w.heap.size ≤ gb196)); clear HB; have HB := n0_; have BK196 := n1_; have GW196 := n2_; have GE196 := n3_; clear n0_ n1_ n2_ n3_; clear hb hbox hg; obtain ⟨⟨hcz1002_0, hcz1002_1⟩, hfz1002_0, hfz1002_1⟩ := cells2 BK196.out) | (go_at_call 33; (with_reducible refine (impl_isAddr.calls a0_0 false _ A2.out).mono ?_); rintro e w' ⟨rfl, ⟨nd, rfl⟩⟩; (try first | exact ⟨rfl, _, World.drewN_drewN _ _ _⟩ | exact ⟨rfl, _, Eq.trans (World.drewN_drewN _ _ _) (congrArg (World.drewN _) (Nat.add_assoc _ _ _))⟩)))
    repeat (go_quiet (first | ((with_reducible refine gate_dst (N := 1) rfl ?_); refine box_event ?hg (N := 1) ?hd (cs := #[.int .i64 a0_0, .int .i64 a0_1]) (t := 31) ?hr ?_; (case hd => rfl); (case hg => rfl); (case hr => first | (go_simp; done) | (go_simp; rfl)); intro gb196 hg w1001 hbox hb; have n0_ := Aside0.mk (below_step wB hb); have n1_ := Aside0.mk (hbox); have n2_ := Aside0.mk ((by rw [hg]; exact (below_size wB) : w.heap.size ≤ gb196)); have n3_ := Aside0.mk ((by rw [hg]; exact (below_size wB) : w.heap.size ≤ gb196)); clear HB; have HB := n0_; have BK196 := n1_; have GW196 := n2_; have GE196 := n3_; clear n0_ n1_ n2_ n3_; clear hb hbox hg; obtain ⟨⟨hcz1002_0, hcz1002_1⟩, hfz1002_0, hfz1002_1⟩ := cells2 BK196.out) | (go_at_call 33; (with_reducible refine (impl_isAddr.calls a0_0 false _ A2.out).mono ?_); rintro e w' ⟨rfl, ⟨nd, rfl⟩⟩; (try first | exact ⟨rfl, _, World.drewN_drewN _ _ _⟩ | exact ⟨rfl, _, Eq.trans (World.drewN_drewN _ _ _) (congrArg (World.drewN _) (Nat.add_assoc _ _ _))⟩))); try go_wp2_with (first | ((with_reducible refine gate_dst (N := 1) rfl ?_); refine box_event ?hg (N := 1) ?hd (cs := #[.int .i64 a0_0, .int .i64 a0_1]) (t := 31) ?hr ?_; (case hd => rfl); (case hg => rfl); (case hr => first | (go_simp; done) | (go_simp; rfl)); intro gb196 hg w1001 hbox hb; have n0_ := Aside0.mk (below_step wB hb); have n1_ := Aside0.mk (hbox); have n2_ := Aside0.mk ((by rw [hg]; exact (below_size wB) : w.heap.size ≤ gb196)); have n3_ := Aside0.mk ((by rw [hg]; exact (below_size wB) : w.heap.size ≤ gb196)); clear HB; have HB := n0_; have BK196 := n1_; have GW196 := n2_; have GE196 := n3_; clear n0_ n1_ n2_ n3_; clear hb hbox hg; obtain ⟨⟨hcz1002_0, hcz1002_1⟩, hfz1002_0, hfz1002_1⟩ := cells2 BK196.out) | (go_at_call 33; (with_reducible refine (impl_isAddr.calls a0_0 false _ A2.out).mono ?_); rintro e w' ⟨rfl, ⟨nd, rfl⟩⟩; (try first | exact ⟨rfl, _, World.drewN_drewN _ _ _⟩ | exact ⟨rfl, _, Eq.trans (World.drewN_drewN _ _ _) (congrArg (World.drewN _) (Nat.add_assoc _ _ _))⟩))))
    go_ret
    exact ⟨by first | rfl | (simp [errW_none, errW_some] <;> rfl) | (simp [*, errW_none, errW_some] <;> rfl), wB⟩

/-! ### impl_isPort: function 26 -/
def impl_isPort.f (a0 : Int) : Option (Bool) := if a0 ≥ 0 then (some (decide (a0 ≤ 65535))) else (some false)
set_option maxHeartbeats 60000000 in
set_option maxRecDepth 100000 in
theorem impl_isPort.calls (a0 : Int) (r : Bool) (w : World) (h : impl_isPort.f a0 = some r) :
    Calls Tryd.prog 26 #[.int .i64 a0] w fun e w' => e = .returned (.bool r) ∧ Drawn0 w w' := by
  have H : (if a0 ≥ 0 then (some (decide (a0 ≤ 65535))) else (some false)) = some r := h
  clear h
  by_cases c2 : a0 ≥ 0
  · rw [if_pos c2] at H
    have c2b0 : decide (0 ≤ a0) = true := decide_eq_true c2
    clear c2
    obtain rfl := Option.some.inj H
    go_enter Tryd.func26, Tryd.ntmps26
    go_wp2
    go_ret
    exact ⟨by first | rfl | (simp; done) | (simp [*]; done), by repeat (first | exact Drawn0.refl _ | apply Drawn0.step)⟩
  · rw [if_neg c2] at H
    have c2b0 : decide (0 ≤ a0) = false := decide_eq_false c2
    clear c2
    obtain rfl := Option.some.inj H
    go_enter Tryd.func26, Tryd.ntmps26
    go_wp2
    go_ret
    exact ⟨by first | rfl | (simp; done) | (simp [*]; done), by repeat (first | exact Drawn0.refl _ | apply Drawn0.step)⟩

end Go.Proofs.YtmgapmpmmkmdhaaDoor.PFnExactShowRules
