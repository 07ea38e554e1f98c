-- Written for this claim by a program of this session (wip/mkprint.py: the print, turned at a few places). Not trusted: Lean checks it.
import Derived.Test.YtkfbcmbemihbnaaPFnExactBoardAgainx0
import Derived.Test.YtkfbcmbemihbnaaPFnExactBoardAgainx2
namespace Go.Proofs.Ytkfbcmbemihbnaa.PFnExactBoardAgain
open Go.RowKit Go.Proofs.YtkfbcmbemihbnaaW.PrintWords Go.Proofs.YtkfbcmbemihbnaaW.PrintLast Go.Proofs.YtkfbcmbemihbnaaW.PrintMore
attribute [local go_sem] max2_int min2_int max_two min_two max_three min_three max_four min_four   -- for this text's walks alone
set_option linter.unusedVariables false
set_option linter.unusedSimpArgs false

/-! ### spec_l15OK: function 83 -/
mutual
def spec_l15OK.j0 : Nat → Bool → Int → Int → List (S85) → Option (Bool)
  | 0, _, _, _, _ => none
  | k + 1, x26, x149000, x149001, x149002 => if x26 = true then (some false) else (spec_l15OK.l0 k x149000 0 x149000 x149001 x149002)
def spec_l15OK.l0 : Nat → Int → Int → Int → Int → List (S85) → Option (Bool)
  | 0, _, _, _, _, _ => none
  | k + 1, x3, x4, x149000, x149001, x149002 => if x4 < (x149002.length : Int) then (if 0 ≤ x4 then (if ((rd_T85 x149002 x4).f0) = x3 then (if ((rd_T85 x149002 x4).f1) ≤ ((rd_T85 x149002 x4).f0) then (some false) else ((spec_l01In.f ((rd_T85 x149002 x4).f2) 0 1000000000).bind fun t151 => (if t151 = true then ((spec_l01In.f ((rd_T85 x149002 x4).f3) 1 1000000).bind fun t152 => (if t152 = true then (if (rd_T85 x149002 x4).f4 = true then (if (rd_T85 x149002 x4).f5 = true then (some false) else (spec_l15OK.l0 k ((rd_T85 x149002 x4).f1) (wrap64 (x4 + 1)) x149000 x149001 x149002)) else (spec_l15OK.l0 k ((rd_T85 x149002 x4).f1) (wrap64 (x4 + 1)) x149000 x149001 x149002)) else (some false))) else (some false)))) else (some false)) else (none)) else (some (x3 == x149001))
end
def spec_l15OK.f (k : Nat) (a0_0 : Int) (a0_1 : Int) (l0_2 : List (S85)) : Option (Bool) := if a0_0 < 0 then (spec_l15OK.j0 k true a0_0 a0_1 l0_2) else (if a0_0 > a0_1 then (spec_l15OK.j0 k true a0_0 a0_1 l0_2) else (if a0_1 > 1099511627776 then (spec_l15OK.j0 k true a0_0 a0_1 l0_2) else (spec_l15OK.j0 k (decide ((l0_2.length : Int) > 4096)) a0_0 a0_1 l0_2)))
theorem spec_l15OK.mono_l : ∀ k, (∀ y0 y1 y2 y3, LeO (spec_l15OK.j0 k y0 y1 y2 y3) (spec_l15OK.j0 (k + 1) y0 y1 y2 y3)) ∧ (∀ y0 y1 y2 y3 y4, LeO (spec_l15OK.l0 k y0 y1 y2 y3 y4) (spec_l15OK.l0 (k + 1) y0 y1 y2 y3 y4))
  | 0 => ⟨fun _ _ _ _ r h => by simp [spec_l15OK.j0] at h, fun _ _ _ _ _ r h => by simp [spec_l15OK.l0] at h⟩
  | k + 1 => by
    obtain ⟨ih0, ih1⟩ := spec_l15OK.mono_l k
    refine ⟨?_, ?_⟩
    · intro y0 y1 y2 y3
      unfold spec_l15OK.j0
      repeat' first
      | (with_reducible exact ih0 _ _ _ _)
      | (with_reducible exact ih1 _ _ _ _ _)
      | (with_reducible exact LeO.refl _)
      | (with_reducible exact LeO.none _)
      | (with_reducible refine LeO.ite ?_ ?_)
      | (with_reducible refine LeO.bind ?_ (fun _ => ?_))
      | exact ih0 _ _ _ _
      | exact ih1 _ _ _ _ _
      | exact LeO.none _
      | refine LeO.ite ?_ ?_
      | refine LeO.bind ?_ (fun _ => ?_)
    · intro y0 y1 y2 y3 y4
      unfold spec_l15OK.l0
      repeat' first
      | (with_reducible exact ih0 _ _ _ _)
      | (with_reducible exact ih1 _ _ _ _ _)
      | (with_reducible exact LeO.refl _)
      | (with_reducible exact LeO.none _)
      | (with_reducible refine LeO.ite ?_ ?_)
      | (with_reducible refine LeO.bind ?_ (fun _ => ?_))
      | exact ih0 _ _ _ _
      | exact ih1 _ _ _ _ _
      | exact LeO.none _
      | refine LeO.ite ?_ ?_
      | refine LeO.bind ?_ (fun _ => ?_)
theorem spec_l15OK.mono : ∀ a0 a1 a2 k, LeO (spec_l15OK.f k a0 a1 a2) (spec_l15OK.f (k + 1) a0 a1 a2) := by
 intro a0 a1 a2 k
 obtain ⟨ih0, ih1⟩ := spec_l15OK.mono_l k
 unfold spec_l15OK.f
 repeat' first
     | (with_reducible exact ih0 _ _ _ _)
     | (with_reducible exact ih1 _ _ _ _ _)
     | (with_reducible exact LeO.refl _)
     | (with_reducible exact LeO.none _)
     | (with_reducible refine LeO.ite ?_ ?_)
     | (with_reducible refine LeO.bind ?_ (fun _ => ?_))
     | exact ih0 _ _ _ _
     | exact ih1 _ _ _ _ _
     | exact LeO.none _
     | refine LeO.ite ?_ ?_
     | refine LeO.bind ?_ (fun _ => ?_)
set_option maxHeartbeats 60000000 in
set_option maxRecDepth 100000 in
theorem spec_l15OK.calls (k : Nat) (a0_0 : Int) (a0_1 : Int) (A0_2 : Option Addr) (c0_2 : Nat) (l0_2 : List (S85)) (r : Bool) (w : World) (hr0_2 : Kd.C k85 w A0_2 l0_2.length l0_2) (hc0_2 : l0_2.length ≤ c0_2) (h : spec_l15OK.f k a0_0 a0_1 l0_2 = some r) :
 Calls Try.prog 83 #[.agg #[.int .i64 a0_0, .int .i64 a0_1, .slice A0_2 l0_2.length c0_2]] w fun e w' => e = .returned (.bool r) ∧ Below w.heap.size w w' := by
 have hu63 := Try.underlying63
 have hu85 := Try.underlying85
 have HR0_2 := Aside0.mk hr0_2
 have HC0_2 := Aside0.mk hc0_2
 clear hr0_2 hc0_2
 have HB := Aside0.mk (Below.refl w.heap.size w)
 have H : (if a0_0 < 0 then (spec_l15OK.j0 k true a0_0 a0_1 l0_2) else (if a0_0 > a0_1 then (spec_l15OK.j0 k true a0_0 a0_1 l0_2) else (if a0_1 > 1099511627776 then (spec_l15OK.j0 k true a0_0 a0_1 l0_2) else (spec_l15OK.j0 k (decide ((l0_2.length : Int) > 4096)) a0_0 a0_1 l0_2)))) = some r := h
 clear h
 have HC2 := Aside0.mk H
 clear H
 go_enter Try.func83, Try.ntmps83
 go_upto_region 1 with (first | ((with_reducible refine gate_dst (N := 1) rfl ?_); (try (refine gate_guard (by rfl) ?_; dsimp only)); refine box_event ?hg (N := 1) ?hd (cs := #[.int .i64 a0_0, .int .i64 a0_1, .slice A0_2 l0_2.length c0_2]) (t := 63) ?hr ?_; (case hd => rfl); (case hg => rfl); (case hr => first | (go_simp; done) | (go_simp; rfl)); intro gb148 hg w1001 hbox hb; have n0_ := Aside0.mk (below_step wB hb); have n1_ := Aside0.mk (hbox); have n2_ := Aside0.mk ((by rw [hg]; exact (below_size wB) : w.heap.size ≤ gb148)); have n3_ := Aside0.mk ((by rw [hg]; exact (below_size wB) : w.heap.size ≤ gb148)); clear HB; have HB := n0_; have BK148 := n1_; have GW148 := n2_; have GE148 := n3_; clear n0_ n1_ n2_ n3_; clear hb hbox hg))
 (try simp only [Act.put, List.setIfInBounds_toArray, List.set_cons_zero, List.set_cons_succ])
 go_cut [26] (fun v26 wc => ∃ (kq : Nat) (x26_1 : Bool), v26 = .bool x26_1 ∧ Aside0 (spec_l15OK.j0 kq x26_1 a0_0 a0_1 l0_2 = some r) ∧ Aside0 (kq ≤ k) ∧ Aside0 (wc.heap[gb148]? = some (.cells #[.int .i64 a0_0, .int .i64 a0_1, (.slice A0_2 l0_2.length c0_2)] 63 (0, 0))) ∧ Aside0 (Below w.heap.size w wc))
 case first => (
 have H := HC2.out
 clear HC2
 by_cases c1002 : a0_0 < 0
 rw [if_pos c1002] at H
 have c1002b0 : decide (a0_0 < 0) = true := decide_eq_true c1002
 clear c1002
 (first | rw [c1002b0] | (simp only [i64_w, i32_w]; rw [c1002b0]) | skip)
 have H' := Aside0.mk H
 clear H
 rotate_left
 rw [if_neg c1002] at H
 have c1002b0 : decide (a0_0 < 0) = false := decide_eq_false c1002
 clear c1002
 (first | rw [c1002b0] | (simp only [i64_w, i32_w]; rw [c1002b0]) | skip)
 by_cases c1003 : a0_0 > a0_1
 rw [if_pos c1003] at H
 have c1003b0 : decide (a0_1 < a0_0) = true := decide_eq_true c1003
 clear c1003
 have H' := Aside0.mk H
 clear H
 rotate_left
 rw [if_neg c1003] at H
 have c1003b0 : decide (a0_1 < a0_0) = false := decide_eq_false c1003
 clear c1003
 by_cases c1004 : a0_1 > 1099511627776
 rw [if_pos c1004] at H
 have c1004b0 : decide (1099511627776 < a0_1) = true := decide_eq_true c1004
 clear c1004
 have H' := Aside0.mk H
 clear H
 rotate_left
 rw [if_neg c1004] at H
 have c1004b0 : decide (1099511627776 < a0_1) = false := decide_eq_false c1004
 clear c1004
 have H' := Aside0.mk H
 clear H
 rotate_left
 all_goals (
 obtain ⟨⟨hcz2001_0, hcz2001_1, hcz2001_2⟩, hfz2001_0, hfz2001_1, hfz2001_2⟩ := cells3 BK148.out
 go_wp2
 all_goals (try (rename_i h_; exfalso; cases h_; done))
 all_goals (try (rename_i h_ h2_; exfalso; cases h_; done))
 go_meet
 )
 iterate 3 (
 focus (
 case rel => exact ⟨_, (true), (by first | rfl | (simp; done) | (simp [*]; done)), H', ⟨by first | omega | exact Nat.le_refl _⟩, ⟨Bh BK148⟩, ⟨wB⟩⟩
 )
 )
 {
 case rel => exact ⟨_, (decide ((l0_2.length : Int) > 4096)), (by first | rfl | (simp; done) | (simp [*]; done)), H', ⟨by first | omega | exact Nat.le_refl _⟩, ⟨Bh BK148⟩, ⟨wB⟩⟩
 }
 )
 case rest => (
 clear HC2
 try clear c0
 try clear c1002
 try clear c1002b0
 try clear c1003
 try clear c1003b0
 try clear c1004
 try clear c1004b0
 try clear hcz2001_0 hcz2001_1 hcz2001_2 hfz2001_0 hfz2001_1 hfz2001_2
 obtain ⟨kq, x26_1, rfl, HA, HJ1, BK148, HB⟩ := hcut
 cases kq with
 | zero => exact absurd HA.out (by simp [spec_l15OK.j0])
 | succ kj1 => {
 have H := HA.out
 clear HA
 simp only [spec_l15OK.j0] at H
 by_cases c1005 : x26_1 = true
 {
 subst c1005
 have H1 : (some false) = some r := by rw [if_pos rfl] at H; exact H
 clear H
 have H := H1
 clear H1
 obtain rfl := Option.some.inj H
 go_wp2
 all_goals (try (rename_i h_; exfalso; cases h_; done))
 all_goals (try (rename_i h_ h2_; exfalso; cases h_; done))
 go_ret
 exact ⟨by first | rfl | (simp [errW_none, errW_some] <;> rfl) | (simp [*, errW_none, errW_some] <;> rfl), wB⟩
 }
 {
 replace c1005 := Bool.eq_false_iff.mpr c1005
 subst c1005
 have H1 : (spec_l15OK.l0 kj1 a0_0 0 a0_0 a0_1 l0_2) = some r := by rw [if_neg (show ¬ (false = true) by decide)] at H; exact H
 clear H
 have H := H1
 clear H1
 have H' := Aside0.mk H
 clear H
 obtain ⟨⟨hcz2001_0, hcz2001_1, hcz2001_2⟩, hfz2001_0, hfz2001_1, hfz2001_2⟩ := cells3 BK148.out
 go_wp2
 all_goals (try (rename_i h_; exfalso; cases h_; done))
 all_goals (try (rename_i h_ h2_; exfalso; cases h_; done))
 go_loopg [3, 4] kj1 (fun kq v3 v4 w' => ∃ (x3_2 : Int) (x4_2 : Int), v3 = .int .i64 x3_2 ∧ v4 = .int .i64 x4_2 ∧ Aside0 (spec_l15OK.l0 kq x3_2 x4_2 a0_0 a0_1 l0_2 = some r) ∧ Aside0 (kq ≤ kj1) ∧ Aside0 (w'.heap[gb148]? = some (.cells #[.int .i64 a0_0, .int .i64 a0_1, (.slice A0_2 l0_2.length c0_2)] 63 (0, 0))) ∧ Aside0 (Below w.heap.size w w'))
 case atStart => exact ⟨(a0_0), (0), (by first | rfl | (simp; done) | (simp [*]; done)), (by first | rfl | (simp; done) | (simp [*]; done)), H', ⟨Nat.le_refl _⟩, ⟨Bh BK148⟩, ⟨wB⟩⟩
 case round => (
 clear H'
 try clear c0
 try clear c1002
 try clear c1002b0
 try clear c1003
 try clear c1003b0
 try clear c1004
 try clear c1004b0
 try clear c1005
 try clear hcz2001_0 hcz2001_1 hcz2001_2 hfz2001_0 hfz2001_1 hfz2001_2
 obtain ⟨x3_2, x4_2, rfl, rfl, HA, HK2, BK148, HB⟩ := hrel
 cases gk with
 | zero => exact absurd HA.out (by simp [spec_l15OK.l0])
 | succ k2 => {
 have H := HA.out
 clear HA
 simp only [spec_l15OK.l0] at H
 by_cases c2002 : x4_2 < (l0_2.length : Int)
 rw [if_pos c2002] at H
 have c2002b0 : decide (x4_2 < (l0_2.length : Int)) = true := decide_eq_true c2002
 clear c2002
 by_cases c2003 : 0 ≤ x4_2
 rw [if_pos c2003] at H
 have c2003b0 : decide (0 ≤ x4_2) = true := decide_eq_true c2003
 clear c2003
 by_cases c2004 : ((rd_T85 l0_2 x4_2).f0) = x3_2
 rw [if_pos c2004] at H
 have c2004b0 : (((rd_T85 l0_2 x4_2).f0) == x3_2) = true := beq_iff_eq.mpr c2004
 have c2004b1 : (((rd_T85 l0_2 x4_2).f0) != x3_2) = false := bne_eq_false_iff_eq.mpr c2004
 clear c2004
 by_cases c2005 : ((rd_T85 l0_2 x4_2).f1) ≤ ((rd_T85 l0_2 x4_2).f0)
 rw [if_pos c2005] at H
 have c2005b0 : decide (((rd_T85 l0_2 x4_2).f1) ≤ ((rd_T85 l0_2 x4_2).f0)) = true := decide_eq_true c2005
 clear c2005
 obtain rfl := Option.some.inj H
 rotate_left
 rw [if_neg c2005] at H
 have c2005b0 : decide (((rd_T85 l0_2 x4_2).f1) ≤ ((rd_T85 l0_2 x4_2).f0)) = false := decide_eq_false c2005
 clear c2005
 replace H := Option.bind_eq_some_iff.mp H
 obtain ⟨t151, A20060, H⟩ := H
 replace H : (if t151 = true then ((spec_l01In.f ((rd_T85 l0_2 x4_2).f3) 1 1000000).bind fun t152 => (if t152 = true then (if (rd_T85 l0_2 x4_2).f4 = true then (if (rd_T85 l0_2 x4_2).f5 = true then (some false) else (spec_l15OK.l0 k2 ((rd_T85 l0_2 x4_2).f1) (wrap64 (x4_2 + 1)) a0_0 a0_1 l0_2)) else (spec_l15OK.l0 k2 ((rd_T85 l0_2 x4_2).f1) (wrap64 (x4_2 + 1)) a0_0 a0_1 l0_2)) else (some false))) else (some false)) = some r := H
 have A2006 := Aside0.mk A20060
 clear A20060
 by_cases c2007 : t151 = true
 subst c2007
 have H1 : ((spec_l01In.f ((rd_T85 l0_2 x4_2).f3) 1 1000000).bind fun t152 => (if t152 = true then (if (rd_T85 l0_2 x4_2).f4 = true then (if (rd_T85 l0_2 x4_2).f5 = true then (some false) else (spec_l15OK.l0 k2 ((rd_T85 l0_2 x4_2).f1) (wrap64 (x4_2 + 1)) a0_0 a0_1 l0_2)) else (spec_l15OK.l0 k2 ((rd_T85 l0_2 x4_2).f1) (wrap64 (x4_2 + 1)) a0_0 a0_1 l0_2)) else (some false))) = some r := by rw [if_pos rfl] at H; exact H
 clear H
 have H := H1
 clear H1
 replace H := Option.bind_eq_some_iff.mp H
 obtain ⟨t152, A20080, H⟩ := H
 replace H : (if t152 = true then (if (rd_T85 l0_2 x4_2).f4 = true then (if (rd_T85 l0_2 x4_2).f5 = true then (some false) else (spec_l15OK.l0 k2 ((rd_T85 l0_2 x4_2).f1) (wrap64 (x4_2 + 1)) a0_0 a0_1 l0_2)) else (spec_l15OK.l0 k2 ((rd_T85 l0_2 x4_2).f1) (wrap64 (x4_2 + 1)) a0_0 a0_1 l0_2)) else (some false)) = some r := H
 have A2008 := Aside0.mk A20080
 clear A20080
 by_cases c2009 : t152 = true
 subst c2009
 have H1 : (if (rd_T85 l0_2 x4_2).f4 = true then (if (rd_T85 l0_2 x4_2).f5 = true then (some false) else (spec_l15OK.l0 k2 ((rd_T85 l0_2 x4_2).f1) (wrap64 (x4_2 + 1)) a0_0 a0_1 l0_2)) else (spec_l15OK.l0 k2 ((rd_T85 l0_2 x4_2).f1) (wrap64 (x4_2 + 1)) a0_0 a0_1 l0_2)) = some r := by rw [if_pos rfl] at H; exact H
 clear H
 have H := H1
 clear H1
 obtain ⟨bq2010, hbq2010⟩ : ∃ b_ : Bool, b_ = ((rd_T85 l0_2 x4_2).f4) := ⟨_, rfl⟩
 replace H : (if bq2010 = true then (if (rd_T85 l0_2 x4_2).f5 = true then (some false) else (spec_l15OK.l0 k2 ((rd_T85 l0_2 x4_2).f1) (wrap64 (x4_2 + 1)) a0_0 a0_1 l0_2)) else (spec_l15OK.l0 k2 ((rd_T85 l0_2 x4_2).f1) (wrap64 (x4_2 + 1)) a0_0 a0_1 l0_2)) = some r := by rw [← hbq2010] at H; exact H
 have Nbq2010 := Aside0.mk hbq2010
 clear hbq2010
 by_cases c2011 : bq2010 = true
 subst c2011
 have H1 : (if (rd_T85 l0_2 x4_2).f5 = true then (some false) else (spec_l15OK.l0 k2 ((rd_T85 l0_2 x4_2).f1) (wrap64 (x4_2 + 1)) a0_0 a0_1 l0_2)) = some r := by rw [if_pos rfl] at H; exact H
 clear H
 have H := H1
 clear H1
 obtain ⟨bq2012, hbq2012⟩ : ∃ b_ : Bool, b_ = ((rd_T85 l0_2 x4_2).f5) := ⟨_, rfl⟩
 replace H : (if bq2012 = true then (some false) else (spec_l15OK.l0 k2 ((rd_T85 l0_2 x4_2).f1) (wrap64 (x4_2 + 1)) a0_0 a0_1 l0_2)) = some r := by rw [← hbq2012] at H; exact H
 have Nbq2012 := Aside0.mk hbq2012
 clear hbq2012
 by_cases c2013 : bq2012 = true
 subst c2013
 have H1 : (some false) = some r := by rw [if_pos rfl] at H; exact H
 clear H
 have H := H1
 clear H1
 obtain rfl := Option.some.inj H
 have bq1_ : True := trivial
 rotate_left
 replace c2013 := Bool.eq_false_iff.mpr c2013
 subst c2013
 have H1 : (spec_l15OK.l0 k2 ((rd_T85 l0_2 x4_2).f1) (wrap64 (x4_2 + 1)) a0_0 a0_1 l0_2) = some r := by rw [if_neg (show ¬ (false = true) by decide)] at H; exact H
 clear H
 have H := H1
 clear H1
 have H' := Aside0.mk H
 clear H
 rotate_left
 replace c2011 := Bool.eq_false_iff.mpr c2011
 subst c2011
 have H1 : (spec_l15OK.l0 k2 ((rd_T85 l0_2 x4_2).f1) (wrap64 (x4_2 + 1)) a0_0 a0_1 l0_2) = some r := by rw [if_neg (show ¬ (false = true) by decide)] at H; exact H
 clear H
 have H := H1
 clear H1
 have H' := Aside0.mk H
 clear H
 rotate_left
 replace c2009 := Bool.eq_false_iff.mpr c2009
 subst c2009
 have H1 : (some false) = some r := by rw [if_neg (show ¬ (false = true) by decide)] at H; exact H
 clear H
 have H := H1
 clear H1
 obtain rfl := Option.some.inj H
 have bq2_ : True := trivial
 rotate_left
 replace c2007 := Bool.eq_false_iff.mpr c2007
 subst c2007
 have H1 : (some false) = some r := by rw [if_neg (show ¬ (false = true) by decide)] at H; exact H
 clear H
 have H := H1
 clear H1
 obtain rfl := Option.some.inj H
 rotate_left
 rw [if_neg c2004] at H
 have c2004b0 : (((rd_T85 l0_2 x4_2).f0) == x3_2) = false := beq_eq_false_iff_ne.mpr c2004
 have c2004b1 : (((rd_T85 l0_2 x4_2).f0) != x3_2) = true := bne_iff_ne.mpr c2004
 obtain rfl := Option.some.inj H
 rotate_left
 rw [if_neg c2003] at H
 exact absurd H (by simp)
 rw [if_neg c2002] at H
 have c2002b0 : decide (x4_2 < (l0_2.length : Int)) = false := decide_eq_false c2002
 clear c2002
 obtain rfl := Option.some.inj H
 rotate_left
 all_goals (
 obtain ⟨⟨hcz3001_0, hcz3001_1, hcz3001_2⟩, hfz3001_0, hfz3001_1, hfz3001_2⟩ := cells3 BK148.out
 )
 iterate 7 (
 focus (
 have p149 : 0 ≤ (x4_2 : Int) := of_decide_eq_true (by first | (with_reducible assumption) | assumption)
 have q149 : x4_2 < (l0_2.length : Int) := of_decide_eq_true (by first | (with_reducible assumption) | assumption)
 obtain ⟨ad149, e149, hx149_0, hx149_1, hx149_2, hx149_3, hx149_4, hx149_5⟩ := at_T85 HR0_2.out x4_2 p149 q149
 )
 rotate_left
 )
 rotate_right 7
 {
 cases e149
 replace hx149_0 := (HB.out.cell (World.block_lt_of_cell? w _ hx149_0)).trans hx149_0
 replace hx149_1 := (HB.out.cell (World.block_lt_of_cell? w _ hx149_1)).trans hx149_1
 replace hx149_2 := (HB.out.cell (World.block_lt_of_cell? w _ hx149_2)).trans hx149_2
 replace hx149_3 := (HB.out.cell (World.block_lt_of_cell? w _ hx149_3)).trans hx149_3
 replace hx149_4 := (HB.out.cell (World.block_lt_of_cell? w _ hx149_4)).trans hx149_4
 replace hx149_5 := (HB.out.cell (World.block_lt_of_cell? w _ hx149_5)).trans hx149_5
 replace p149 := eq_true p149
 replace q149 := eq_true q149
 go_wp2_with (first | ((with_reducible refine gate_dst (N := 5) rfl ?_); (try (refine gate_guard (by rfl) ?_; dsimp only)); refine box_event ?hg (N := 5) ?hd (cs := #[.int .i64 0, .int .i64 0, .int .i64 0, .int .i64 0, .bool false, .bool false]) (t := 85) ?hr ?_; (case hd => rfl); (case hg => rfl); (case hr => first | (go_simp; done) | (go_simp; rfl)); intro gb150 hg w3002 hbox hb; have n0_ := Aside0.mk (blk_below (Bh BK148) hb); have n1_ := Aside0.mk (below_step wB hb); have n2_ := Aside0.mk (hbox); have n3_ := Aside0.mk ((by rw [hg]; exact (below_size wB) : w.heap.size ≤ gb150)); have n4_ := Aside0.mk ((by rw [hg]; exact (below_size wB) : w.heap.size ≤ gb150)); have n5_ := Aside0.mk ((by rw [hg]; exact Nat.ne_of_lt (blk_lt (Bh BK148)) : gb148 ≠ gb150)); have n6_ := Aside0.mk ((by rw [hg]; exact Nat.ne_of_gt (blk_lt (Bh BK148)) : gb150 ≠ gb148)); clear BK148; clear HB; have BK148 := n0_; have HB := n1_; have BK150 := n2_; have GW150 := n3_; have GE150 := n4_; have NB148_150 := n5_; have NB150_148 := n6_; clear n0_ n1_ n2_ n3_ n4_ n5_ n6_; clear hb hbox hg; have hnb3003 := NB150_148.out; have hnc3003 := NB148_150.out; obtain ⟨⟨hcz3004_0, hcz3004_1, hcz3004_2, hcz3004_3, hcz3004_4, hcz3004_5⟩, hfz3004_0, hfz3004_1, hfz3004_2, hfz3004_3, hfz3004_4, hfz3004_5⟩ := cells6 BK150.out) | ((with_reducible refine gate_store (t := 85) (p := 5) rfl ?_); refine store_event (t := 85) (p := 5) (v := ?_) (w1 := ((((((w3002.setCell ⟨gb150, 0, none⟩ (.int .i64 ((rd_T85 l0_2 x4_2).f0))).setCell ⟨gb150, 1, none⟩ (.int .i64 ((rd_T85 l0_2 x4_2).f1))).setCell ⟨gb150, 2, none⟩ (.int .i64 ((rd_T85 l0_2 x4_2).f2))).setCell ⟨gb150, 3, none⟩ (.int .i64 ((rd_T85 l0_2 x4_2).f3))).setCell ⟨gb150, 4, none⟩ (.bool ((rd_T85 l0_2 x4_2).f4))).setCell ⟨gb150, 5, none⟩ (.bool ((rd_T85 l0_2 x4_2).f5)))) ?hg ?ho ?hn ?hr ?_; (case ho => rfl); (case hg => rfl); (case hn => rfl); (case hr => first | (go_simp; done) | (go_simp; rfl)); intro w3005 hw; have n0_ : Aside0 (w3005.heap[gb148]? = some (.cells #[.int .i64 a0_0, .int .i64 a0_1, .slice (some ad149) l0_2.length c0_2] 63 (0, 0))) := ⟨(by rw [hw]; exact (by (with_reducible repeat (first | refine blk_drewN ?_ _ | refine blk_drew ?_ | refine blk_alloc ?_ _)); refine blk_far ?_ NB148_150.out _; (with_reducible repeat (first | refine blk_drewN ?_ _ | refine blk_drew ?_ | refine blk_alloc ?_ _)); refine blk_far ?_ NB148_150.out _; (with_reducible repeat (first | refine blk_drewN ?_ _ | refine blk_drew ?_ | refine blk_alloc ?_ _)); refine blk_far ?_ NB148_150.out _; (with_reducible repeat (first | refine blk_drewN ?_ _ | refine blk_drew ?_ | refine blk_alloc ?_ _)); refine blk_far ?_ NB148_150.out _; (with_reducible repeat (first | refine blk_drewN ?_ _ | refine blk_drew ?_ | refine blk_alloc ?_ _)); refine blk_far ?_ NB148_150.out _; (with_reducible repeat (first | refine blk_drewN ?_ _ | refine blk_drew ?_ | refine blk_alloc ?_ _)); refine blk_far ?_ NB148_150.out _; (with_reducible repeat (first | refine blk_drewN ?_ _ | refine blk_drew ?_ | refine blk_alloc ?_ _)); exact BK148.out))⟩; have n1_ : Aside0 (w3005.heap[gb150]? = some (.cells #[.int .i64 ((rd_T85 l0_2 x4_2).f0), .int .i64 ((rd_T85 l0_2 x4_2).f1), .int .i64 ((rd_T85 l0_2 x4_2).f2), .int .i64 ((rd_T85 l0_2 x4_2).f3), .bool ((rd_T85 l0_2 x4_2).f4), .bool ((rd_T85 l0_2 x4_2).f5)] 85 (0, 0))) := ⟨(by rw [hw]; exact (by (with_reducible repeat (first | refine blk_drewN ?_ _ | refine blk_drew ?_ | refine blk_alloc ?_ _)); refine blk_put (cs := #[.int .i64 ((rd_T85 l0_2 x4_2).f0), .int .i64 ((rd_T85 l0_2 x4_2).f1), .int .i64 ((rd_T85 l0_2 x4_2).f2), .int .i64 ((rd_T85 l0_2 x4_2).f3), .bool ((rd_T85 l0_2 x4_2).f4), .bool false]) ?_ 5 _ rfl; (with_reducible repeat (first | refine blk_drewN ?_ _ | refine blk_drew ?_ | refine blk_alloc ?_ _)); refine blk_put (cs := #[.int .i64 ((rd_T85 l0_2 x4_2).f0), .int .i64 ((rd_T85 l0_2 x4_2).f1), .int .i64 ((rd_T85 l0_2 x4_2).f2), .int .i64 ((rd_T85 l0_2 x4_2).f3), .bool false, .bool false]) ?_ 4 _ rfl; (with_reducible repeat (first | refine blk_drewN ?_ _ | refine blk_drew ?_ | refine blk_alloc ?_ _)); refine blk_put (cs := #[.int .i64 ((rd_T85 l0_2 x4_2).f0), .int .i64 ((rd_T85 l0_2 x4_2).f1), .int .i64 ((rd_T85 l0_2 x4_2).f2), .int .i64 0, .bool false, .bool false]) ?_ 3 _ rfl; (with_reducible repeat (first | refine blk_drewN ?_ _ | refine blk_drew ?_ | refine blk_alloc ?_ _)); refine blk_put (cs := #[.int .i64 ((rd_T85 l0_2 x4_2).f0), .int .i64 ((rd_T85 l0_2 x4_2).f1), .int .i64 0, .int .i64 0, .bool false, .bool false]) ?_ 2 _ rfl; (with_reducible repeat (first | refine blk_drewN ?_ _ | refine blk_drew ?_ | refine blk_alloc ?_ _)); refine blk_put (cs := #[.int .i64 ((rd_T85 l0_2 x4_2).f0), .int .i64 0, .int .i64 0, .int .i64 0, .bool false, .bool false]) ?_ 1 _ rfl; (with_reducible repeat (first | refine blk_drewN ?_ _ | refine blk_drew ?_ | refine blk_alloc ?_ _)); refine blk_put (cs := #[.int .i64 0, .int .i64 0, .int .i64 0, .int .i64 0, .bool false, .bool false]) ?_ 0 _ rfl; (with_reducible repeat (first | refine blk_drewN ?_ _ | refine blk_drew ?_ | refine blk_alloc ?_ _)); exact BK150.out))⟩; have n2_ : Aside0 (Below w.heap.size w w3005) := ⟨(by rw [hw]; exact wB)⟩; clear hw; clear BK148; clear BK150; clear HB; have BK148 := n0_; have BK150 := n1_; have HB := n2_; clear n0_ n1_ n2_; obtain ⟨⟨hcz3006_0, hcz3006_1, hcz3006_2, hcz3006_3, hcz3006_4, hcz3006_5⟩, hfz3006_0, hfz3006_1, hfz3006_2, hfz3006_3, hfz3006_4, hfz3006_5⟩ := cells6 BK150.out))
 all_goals (try (rename_i h_; exfalso; cases h_; done))
 all_goals (try (rename_i h_ h2_; exfalso; cases h_; done))
 go_ret
 exact ⟨by first | rfl | (simp [errW_none, errW_some] <;> rfl) | (simp [*, errW_none, errW_some] <;> rfl), wB⟩
 }
 iterate 3 (
 focus (
 (try rw [← Nbq2010.out] at hx149_4)
 )
 rotate_left
 )
 rotate_right 3
 iterate 2 (
 focus (
 (try rw [← Nbq2012.out] at hx149_4)
 (try rw [← Nbq2010.out] at hx149_5)
 (try rw [← Nbq2012.out] at hx149_5)
 cases e149
 replace hx149_0 := (HB.out.cell (World.block_lt_of_cell? w _ hx149_0)).trans hx149_0
 replace hx149_1 := (HB.out.cell (World.block_lt_of_cell? w _ hx149_1)).trans hx149_1
 replace hx149_2 := (HB.out.cell (World.block_lt_of_cell? w _ hx149_2)).trans hx149_2
 replace hx149_3 := (HB.out.cell (World.block_lt_of_cell? w _ hx149_3)).trans hx149_3
 replace hx149_4 := (HB.out.cell (World.block_lt_of_cell? w _ hx149_4)).trans hx149_4
 replace hx149_5 := (HB.out.cell (World.block_lt_of_cell? w _ hx149_5)).trans hx149_5
 replace p149 := eq_true p149
 replace q149 := eq_true q149
 go_wp2_with (first | ((with_reducible refine gate_dst (N := 5) rfl ?_); (try (refine gate_guard (by rfl) ?_; dsimp only)); refine box_event ?hg (N := 5) ?hd (cs := #[.int .i64 0, .int .i64 0, .int .i64 0, .int .i64 0, .bool false, .bool false]) (t := 85) ?hr ?_; (case hd => rfl); (case hg => rfl); (case hr => first | (go_simp; done) | (go_simp; rfl)); intro gb150 hg w3002 hbox hb; have n0_ := Aside0.mk (blk_below (Bh BK148) hb); have n1_ := Aside0.mk (below_step wB hb); have n2_ := Aside0.mk (hbox); have n3_ := Aside0.mk ((by rw [hg]; exact (below_size wB) : w.heap.size ≤ gb150)); have n4_ := Aside0.mk ((by rw [hg]; exact (below_size wB) : w.heap.size ≤ gb150)); have n5_ := Aside0.mk ((by rw [hg]; exact Nat.ne_of_lt (blk_lt (Bh BK148)) : gb148 ≠ gb150)); have n6_ := Aside0.mk ((by rw [hg]; exact Nat.ne_of_gt (blk_lt (Bh BK148)) : gb150 ≠ gb148)); clear BK148; clear HB; have BK148 := n0_; have HB := n1_; have BK150 := n2_; have GW150 := n3_; have GE150 := n4_; have NB148_150 := n5_; have NB150_148 := n6_; clear n0_ n1_ n2_ n3_ n4_ n5_ n6_; clear hb hbox hg; have hnb3003 := NB150_148.out; have hnc3003 := NB148_150.out; obtain ⟨⟨hcz3004_0, hcz3004_1, hcz3004_2, hcz3004_3, hcz3004_4, hcz3004_5⟩, hfz3004_0, hfz3004_1, hfz3004_2, hfz3004_3, hfz3004_4, hfz3004_5⟩ := cells6 BK150.out) | ((with_reducible refine gate_store (t := 85) (p := 5) rfl ?_); refine store_event (t := 85) (p := 5) (v := ?_) (w1 := ((((((w3002.setCell ⟨gb150, 0, none⟩ (.int .i64 ((rd_T85 l0_2 x4_2).f0))).setCell ⟨gb150, 1, none⟩ (.int .i64 ((rd_T85 l0_2 x4_2).f1))).setCell ⟨gb150, 2, none⟩ (.int .i64 ((rd_T85 l0_2 x4_2).f2))).setCell ⟨gb150, 3, none⟩ (.int .i64 ((rd_T85 l0_2 x4_2).f3))).setCell ⟨gb150, 4, none⟩ (.bool true)).setCell ⟨gb150, 5, none⟩ (.bool (by first | (clear bq1_; exact true) | exact false)))) ?hg ?ho ?hn ?hr ?_; (case ho => rfl); (case hg => rfl); (case hn => rfl); (case hr => first | (go_simp; done) | (go_simp; rfl)); intro w3005 hw; have n0_ : Aside0 (w3005.heap[gb148]? = some (.cells #[.int .i64 a0_0, .int .i64 a0_1, .slice (some ad149) l0_2.length c0_2] 63 (0, 0))) := ⟨(by rw [hw]; exact (by (with_reducible repeat (first | refine blk_drewN ?_ _ | refine blk_drew ?_ | refine blk_alloc ?_ _)); refine blk_far ?_ NB148_150.out _; (with_reducible repeat (first | refine blk_drewN ?_ _ | refine blk_drew ?_ | refine blk_alloc ?_ _)); refine blk_far ?_ NB148_150.out _; (with_reducible repeat (first | refine blk_drewN ?_ _ | refine blk_drew ?_ | refine blk_alloc ?_ _)); refine blk_far ?_ NB148_150.out _; (with_reducible repeat (first | refine blk_drewN ?_ _ | refine blk_drew ?_ | refine blk_alloc ?_ _)); refine blk_far ?_ NB148_150.out _; (with_reducible repeat (first | refine blk_drewN ?_ _ | refine blk_drew ?_ | refine blk_alloc ?_ _)); refine blk_far ?_ NB148_150.out _; (with_reducible repeat (first | refine blk_drewN ?_ _ | refine blk_drew ?_ | refine blk_alloc ?_ _)); refine blk_far ?_ NB148_150.out _; (with_reducible repeat (first | refine blk_drewN ?_ _ | refine blk_drew ?_ | refine blk_alloc ?_ _)); exact BK148.out))⟩; have n1_ : Aside0 (w3005.heap[gb150]? = some (.cells #[.int .i64 ((rd_T85 l0_2 x4_2).f0), .int .i64 ((rd_T85 l0_2 x4_2).f1), .int .i64 ((rd_T85 l0_2 x4_2).f2), .int .i64 ((rd_T85 l0_2 x4_2).f3), .bool true, .bool (by first | (clear bq1_; exact true) | exact false)] 85 (0, 0))) := ⟨(by rw [hw]; exact (by (with_reducible repeat (first | refine blk_drewN ?_ _ | refine blk_drew ?_ | refine blk_alloc ?_ _)); refine blk_put (cs := #[.int .i64 ((rd_T85 l0_2 x4_2).f0), .int .i64 ((rd_T85 l0_2 x4_2).f1), .int .i64 ((rd_T85 l0_2 x4_2).f2), .int .i64 ((rd_T85 l0_2 x4_2).f3), .bool true, .bool false]) ?_ 5 _ rfl; (with_reducible repeat (first | refine blk_drewN ?_ _ | refine blk_drew ?_ | refine blk_alloc ?_ _)); refine blk_put (cs := #[.int .i64 ((rd_T85 l0_2 x4_2).f0), .int .i64 ((rd_T85 l0_2 x4_2).f1), .int .i64 ((rd_T85 l0_2 x4_2).f2), .int .i64 ((rd_T85 l0_2 x4_2).f3), .bool false, .bool false]) ?_ 4 _ rfl; (with_reducible repeat (first | refine blk_drewN ?_ _ | refine blk_drew ?_ | refine blk_alloc ?_ _)); refine blk_put (cs := #[.int .i64 ((rd_T85 l0_2 x4_2).f0), .int .i64 ((rd_T85 l0_2 x4_2).f1), .int .i64 ((rd_T85 l0_2 x4_2).f2), .int .i64 0, .bool false, .bool false]) ?_ 3 _ rfl; (with_reducible repeat (first | refine blk_drewN ?_ _ | refine blk_drew ?_ | refine blk_alloc ?_ _)); refine blk_put (cs := #[.int .i64 ((rd_T85 l0_2 x4_2).f0), .int .i64 ((rd_T85 l0_2 x4_2).f1), .int .i64 0, .int .i64 0, .bool false, .bool false]) ?_ 2 _ rfl; (with_reducible repeat (first | refine blk_drewN ?_ _ | refine blk_drew ?_ | refine blk_alloc ?_ _)); refine blk_put (cs := #[.int .i64 ((rd_T85 l0_2 x4_2).f0), .int .i64 0, .int .i64 0, .int .i64 0, .bool false, .bool false]) ?_ 1 _ rfl; (with_reducible repeat (first | refine blk_drewN ?_ _ | refine blk_drew ?_ | refine blk_alloc ?_ _)); refine blk_put (cs := #[.int .i64 0, .int .i64 0, .int .i64 0, .int .i64 0, .bool false, .bool false]) ?_ 0 _ rfl; (with_reducible repeat (first | refine blk_drewN ?_ _ | refine blk_drew ?_ | refine blk_alloc ?_ _)); exact BK150.out))⟩; have n2_ : Aside0 (Below w.heap.size w w3005) := ⟨(by rw [hw]; exact wB)⟩; clear hw; clear BK148; clear BK150; clear HB; have BK148 := n0_; have BK150 := n1_; have HB := n2_; clear n0_ n1_ n2_; obtain ⟨⟨hcz3006_0, hcz3006_1, hcz3006_2, hcz3006_3, hcz3006_4, hcz3006_5⟩, hfz3006_0, hfz3006_1, hfz3006_2, hfz3006_3, hfz3006_4, hfz3006_5⟩ := cells6 BK150.out) | (go_at_call 73; (with_reducible refine (spec_l01In.calls ((rd_T85 l0_2 x4_2).f2) 0 1000000000 true _ A2006.out).mono ?_); rintro e w' ⟨rfl, ⟨nd, rfl⟩⟩) | (go_at_call 73; (with_reducible refine (spec_l01In.calls ((rd_T85 l0_2 x4_2).f3) 1 1000000 true _ A2008.out).mono ?_); rintro e w' ⟨rfl, ⟨nd, rfl⟩⟩))
 all_goals (try (rename_i h_; exfalso; cases h_; done))
 all_goals (try (rename_i h_ h2_; exfalso; cases h_; done))
 )
 rotate_left
 )
 rotate_right 2
 {
 go_ret
 exact ⟨by first | rfl | (simp [errW_none, errW_some] <;> rfl) | (simp [*, errW_none, errW_some] <;> rfl), wB⟩
 }
 {
 go_roundg k2
 case measure => have := HJ1.out; have := HK2.out; omega
 case rel => exact ⟨((rd_T85 l0_2 x4_2).f1), (wrap64 (x4_2 + 1)), (by first | rfl | (simp; done) | (simp [*]; done)), (by first | rfl | (simp; done) | (simp [*]; done)), H', ⟨by have := HJ1.out; have := HK2.out; omega⟩, ⟨Bh BK148⟩, ⟨wB⟩⟩
 }
 {
 (try rw [← Nbq2010.out] at hx149_5)
 cases e149
 replace hx149_0 := (HB.out.cell (World.block_lt_of_cell? w _ hx149_0)).trans hx149_0
 replace hx149_1 := (HB.out.cell (World.block_lt_of_cell? w _ hx149_1)).trans hx149_1
 replace hx149_2 := (HB.out.cell (World.block_lt_of_cell? w _ hx149_2)).trans hx149_2
 replace hx149_3 := (HB.out.cell (World.block_lt_of_cell? w _ hx149_3)).trans hx149_3
 replace hx149_4 := (HB.out.cell (World.block_lt_of_cell? w _ hx149_4)).trans hx149_4
 replace hx149_5 := (HB.out.cell (World.block_lt_of_cell? w _ hx149_5)).trans hx149_5
 replace p149 := eq_true p149
 replace q149 := eq_true q149
 go_wp2_with (first | ((with_reducible refine gate_dst (N := 5) rfl ?_); (try (refine gate_guard (by rfl) ?_; dsimp only)); refine box_event ?hg (N := 5) ?hd (cs := #[.int .i64 0, .int .i64 0, .int .i64 0, .int .i64 0, .bool false, .bool false]) (t := 85) ?hr ?_; (case hd => rfl); (case hg => rfl); (case hr => first | (go_simp; done) | (go_simp; rfl)); intro gb150 hg w3002 hbox hb; have n0_ := Aside0.mk (blk_below (Bh BK148) hb); have n1_ := Aside0.mk (below_step wB hb); have n2_ := Aside0.mk (hbox); have n3_ := Aside0.mk ((by rw [hg]; exact (below_size wB) : w.heap.size ≤ gb150)); have n4_ := Aside0.mk ((by rw [hg]; exact (below_size wB) : w.heap.size ≤ gb150)); have n5_ := Aside0.mk ((by rw [hg]; exact Nat.ne_of_lt (blk_lt (Bh BK148)) : gb148 ≠ gb150)); have n6_ := Aside0.mk ((by rw [hg]; exact Nat.ne_of_gt (blk_lt (Bh BK148)) : gb150 ≠ gb148)); clear BK148; clear HB; have BK148 := n0_; have HB := n1_; have BK150 := n2_; have GW150 := n3_; have GE150 := n4_; have NB148_150 := n5_; have NB150_148 := n6_; clear n0_ n1_ n2_ n3_ n4_ n5_ n6_; clear hb hbox hg; have hnb3003 := NB150_148.out; have hnc3003 := NB148_150.out; obtain ⟨⟨hcz3004_0, hcz3004_1, hcz3004_2, hcz3004_3, hcz3004_4, hcz3004_5⟩, hfz3004_0, hfz3004_1, hfz3004_2, hfz3004_3, hfz3004_4, hfz3004_5⟩ := cells6 BK150.out) | ((with_reducible refine gate_store (t := 85) (p := 5) rfl ?_); refine store_event (t := 85) (p := 5) (v := ?_) (w1 := ((((((w3002.setCell ⟨gb150, 0, none⟩ (.int .i64 ((rd_T85 l0_2 x4_2).f0))).setCell ⟨gb150, 1, none⟩ (.int .i64 ((rd_T85 l0_2 x4_2).f1))).setCell ⟨gb150, 2, none⟩ (.int .i64 ((rd_T85 l0_2 x4_2).f2))).setCell ⟨gb150, 3, none⟩ (.int .i64 ((rd_T85 l0_2 x4_2).f3))).setCell ⟨gb150, 4, none⟩ (.bool false)).setCell ⟨gb150, 5, none⟩ (.bool ((rd_T85 l0_2 x4_2).f5)))) ?hg ?ho ?hn ?hr ?_; (case ho => rfl); (case hg => rfl); (case hn => rfl); (case hr => first | (go_simp; done) | (go_simp; rfl)); intro w3005 hw; have n0_ : Aside0 (w3005.heap[gb148]? = some (.cells #[.int .i64 a0_0, .int .i64 a0_1, .slice (some ad149) l0_2.length c0_2] 63 (0, 0))) := ⟨(by rw [hw]; exact (by (with_reducible repeat (first | refine blk_drewN ?_ _ | refine blk_drew ?_ | refine blk_alloc ?_ _)); refine blk_far ?_ NB148_150.out _; (with_reducible repeat (first | refine blk_drewN ?_ _ | refine blk_drew ?_ | refine blk_alloc ?_ _)); refine blk_far ?_ NB148_150.out _; (with_reducible repeat (first | refine blk_drewN ?_ _ | refine blk_drew ?_ | refine blk_alloc ?_ _)); refine blk_far ?_ NB148_150.out _; (with_reducible repeat (first | refine blk_drewN ?_ _ | refine blk_drew ?_ | refine blk_alloc ?_ _)); refine blk_far ?_ NB148_150.out _; (with_reducible repeat (first | refine blk_drewN ?_ _ | refine blk_drew ?_ | refine blk_alloc ?_ _)); refine blk_far ?_ NB148_150.out _; (with_reducible repeat (first | refine blk_drewN ?_ _ | refine blk_drew ?_ | refine blk_alloc ?_ _)); refine blk_far ?_ NB148_150.out _; (with_reducible repeat (first | refine blk_drewN ?_ _ | refine blk_drew ?_ | refine blk_alloc ?_ _)); exact BK148.out))⟩; have n1_ : Aside0 (w3005.heap[gb150]? = some (.cells #[.int .i64 ((rd_T85 l0_2 x4_2).f0), .int .i64 ((rd_T85 l0_2 x4_2).f1), .int .i64 ((rd_T85 l0_2 x4_2).f2), .int .i64 ((rd_T85 l0_2 x4_2).f3), .bool false, .bool ((rd_T85 l0_2 x4_2).f5)] 85 (0, 0))) := ⟨(by rw [hw]; exact (by (with_reducible repeat (first | refine blk_drewN ?_ _ | refine blk_drew ?_ | refine blk_alloc ?_ _)); refine blk_put (cs := #[.int .i64 ((rd_T85 l0_2 x4_2).f0), .int .i64 ((rd_T85 l0_2 x4_2).f1), .int .i64 ((rd_T85 l0_2 x4_2).f2), .int .i64 ((rd_T85 l0_2 x4_2).f3), .bool false, .bool false]) ?_ 5 _ rfl; (with_reducible repeat (first | refine blk_drewN ?_ _ | refine blk_drew ?_ | refine blk_alloc ?_ _)); refine blk_put (cs := #[.int .i64 ((rd_T85 l0_2 x4_2).f0), .int .i64 ((rd_T85 l0_2 x4_2).f1), .int .i64 ((rd_T85 l0_2 x4_2).f2), .int .i64 ((rd_T85 l0_2 x4_2).f3), .bool false, .bool false]) ?_ 4 _ rfl; (with_reducible repeat (first | refine blk_drewN ?_ _ | refine blk_drew ?_ | refine blk_alloc ?_ _)); refine blk_put (cs := #[.int .i64 ((rd_T85 l0_2 x4_2).f0), .int .i64 ((rd_T85 l0_2 x4_2).f1), .int .i64 ((rd_T85 l0_2 x4_2).f2), .int .i64 0, .bool false, .bool false]) ?_ 3 _ rfl; (with_reducible repeat (first | refine blk_drewN ?_ _ | refine blk_drew ?_ | refine blk_alloc ?_ _)); refine blk_put (cs := #[.int .i64 ((rd_T85 l0_2 x4_2).f0), .int .i64 ((rd_T85 l0_2 x4_2).f1), .int .i64 0, .int .i64 0, .bool false, .bool false]) ?_ 2 _ rfl; (with_reducible repeat (first | refine blk_drewN ?_ _ | refine blk_drew ?_ | refine blk_alloc ?_ _)); refine blk_put (cs := #[.int .i64 ((rd_T85 l0_2 x4_2).f0), .int .i64 0, .int .i64 0, .int .i64 0, .bool false, .bool false]) ?_ 1 _ rfl; (with_reducible repeat (first | refine blk_drewN ?_ _ | refine blk_drew ?_ | refine blk_alloc ?_ _)); refine blk_put (cs := #[.int .i64 0, .int .i64 0, .int .i64 0, .int .i64 0, .bool false, .bool false]) ?_ 0 _ rfl; (with_reducible repeat (first | refine blk_drewN ?_ _ | refine blk_drew ?_ | refine blk_alloc ?_ _)); exact BK150.out))⟩; have n2_ : Aside0 (Below w.heap.size w w3005) := ⟨(by rw [hw]; exact wB)⟩; clear hw; clear BK148; clear BK150; clear HB; have BK148 := n0_; have BK150 := n1_; have HB := n2_; clear n0_ n1_ n2_; obtain ⟨⟨hcz3006_0, hcz3006_1, hcz3006_2, hcz3006_3, hcz3006_4, hcz3006_5⟩, hfz3006_0, hfz3006_1, hfz3006_2, hfz3006_3, hfz3006_4, hfz3006_5⟩ := cells6 BK150.out) | (go_at_call 73; (with_reducible refine (spec_l01In.calls ((rd_T85 l0_2 x4_2).f2) 0 1000000000 true _ A2006.out).mono ?_); rintro e w' ⟨rfl, ⟨nd, rfl⟩⟩) | (go_at_call 73; (with_reducible refine (spec_l01In.calls ((rd_T85 l0_2 x4_2).f3) 1 1000000 true _ A2008.out).mono ?_); rintro e w' ⟨rfl, ⟨nd, rfl⟩⟩))
 all_goals (try (rename_i h_; exfalso; cases h_; done))
 all_goals (try (rename_i h_ h2_; exfalso; cases h_; done))
 go_roundg k2
 case measure => have := HJ1.out; have := HK2.out; omega
 case rel => exact ⟨((rd_T85 l0_2 x4_2).f1), (wrap64 (x4_2 + 1)), (by first | rfl | (simp; done) | (simp [*]; done)), (by first | rfl | (simp; done) | (simp [*]; done)), H', ⟨by have := HJ1.out; have := HK2.out; omega⟩, ⟨Bh BK148⟩, ⟨wB⟩⟩
 }
 iterate 3 (
 focus (
 cases e149
 replace hx149_0 := (HB.out.cell (World.block_lt_of_cell? w _ hx149_0)).trans hx149_0
 replace hx149_1 := (HB.out.cell (World.block_lt_of_cell? w _ hx149_1)).trans hx149_1
 replace hx149_2 := (HB.out.cell (World.block_lt_of_cell? w _ hx149_2)).trans hx149_2
 replace hx149_3 := (HB.out.cell (World.block_lt_of_cell? w _ hx149_3)).trans hx149_3
 replace hx149_4 := (HB.out.cell (World.block_lt_of_cell? w _ hx149_4)).trans hx149_4
 replace hx149_5 := (HB.out.cell (World.block_lt_of_cell? w _ hx149_5)).trans hx149_5
 replace p149 := eq_true p149
 replace q149 := eq_true q149
 go_wp2_with (first | ((with_reducible refine gate_dst (N := 5) rfl ?_); (try (refine gate_guard (by rfl) ?_; dsimp only)); refine box_event ?hg (N := 5) ?hd (cs := #[.int .i64 0, .int .i64 0, .int .i64 0, .int .i64 0, .bool false, .bool false]) (t := 85) ?hr ?_; (case hd => rfl); (case hg => rfl); (case hr => first | (go_simp; done) | (go_simp; rfl)); intro gb150 hg w3002 hbox hb; have n0_ := Aside0.mk (blk_below (Bh BK148) hb); have n1_ := Aside0.mk (below_step wB hb); have n2_ := Aside0.mk (hbox); have n3_ := Aside0.mk ((by rw [hg]; exact (below_size wB) : w.heap.size ≤ gb150)); have n4_ := Aside0.mk ((by rw [hg]; exact (below_size wB) : w.heap.size ≤ gb150)); have n5_ := Aside0.mk ((by rw [hg]; exact Nat.ne_of_lt (blk_lt (Bh BK148)) : gb148 ≠ gb150)); have n6_ := Aside0.mk ((by rw [hg]; exact Nat.ne_of_gt (blk_lt (Bh BK148)) : gb150 ≠ gb148)); clear BK148; clear HB; have BK148 := n0_; have HB := n1_; have BK150 := n2_; have GW150 := n3_; have GE150 := n4_; have NB148_150 := n5_; have NB150_148 := n6_; clear n0_ n1_ n2_ n3_ n4_ n5_ n6_; clear hb hbox hg; have hnb3003 := NB150_148.out; have hnc3003 := NB148_150.out; obtain ⟨⟨hcz3004_0, hcz3004_1, hcz3004_2, hcz3004_3, hcz3004_4, hcz3004_5⟩, hfz3004_0, hfz3004_1, hfz3004_2, hfz3004_3, hfz3004_4, hfz3004_5⟩ := cells6 BK150.out) | ((with_reducible refine gate_store (t := 85) (p := 5) rfl ?_); refine store_event (t := 85) (p := 5) (v := ?_) (w1 := ((((((w3002.setCell ⟨gb150, 0, none⟩ (.int .i64 ((rd_T85 l0_2 x4_2).f0))).setCell ⟨gb150, 1, none⟩ (.int .i64 ((rd_T85 l0_2 x4_2).f1))).setCell ⟨gb150, 2, none⟩ (.int .i64 ((rd_T85 l0_2 x4_2).f2))).setCell ⟨gb150, 3, none⟩ (.int .i64 ((rd_T85 l0_2 x4_2).f3))).setCell ⟨gb150, 4, none⟩ (.bool ((rd_T85 l0_2 x4_2).f4))).setCell ⟨gb150, 5, none⟩ (.bool ((rd_T85 l0_2 x4_2).f5)))) ?hg ?ho ?hn ?hr ?_; (case ho => rfl); (case hg => rfl); (case hn => rfl); (case hr => first | (go_simp; done) | (go_simp; rfl)); intro w3005 hw; have n0_ : Aside0 (w3005.heap[gb148]? = some (.cells #[.int .i64 a0_0, .int .i64 a0_1, .slice (some ad149) l0_2.length c0_2] 63 (0, 0))) := ⟨(by rw [hw]; exact (by (with_reducible repeat (first | refine blk_drewN ?_ _ | refine blk_drew ?_ | refine blk_alloc ?_ _)); refine blk_far ?_ NB148_150.out _; (with_reducible repeat (first | refine blk_drewN ?_ _ | refine blk_drew ?_ | refine blk_alloc ?_ _)); refine blk_far ?_ NB148_150.out _; (with_reducible repeat (first | refine blk_drewN ?_ _ | refine blk_drew ?_ | refine blk_alloc ?_ _)); refine blk_far ?_ NB148_150.out _; (with_reducible repeat (first | refine blk_drewN ?_ _ | refine blk_drew ?_ | refine blk_alloc ?_ _)); refine blk_far ?_ NB148_150.out _; (with_reducible repeat (first | refine blk_drewN ?_ _ | refine blk_drew ?_ | refine blk_alloc ?_ _)); refine blk_far ?_ NB148_150.out _; (with_reducible repeat (first | refine blk_drewN ?_ _ | refine blk_drew ?_ | refine blk_alloc ?_ _)); refine blk_far ?_ NB148_150.out _; (with_reducible repeat (first | refine blk_drewN ?_ _ | refine blk_drew ?_ | refine blk_alloc ?_ _)); exact BK148.out))⟩; have n1_ : Aside0 (w3005.heap[gb150]? = some (.cells #[.int .i64 ((rd_T85 l0_2 x4_2).f0), .int .i64 ((rd_T85 l0_2 x4_2).f1), .int .i64 ((rd_T85 l0_2 x4_2).f2), .int .i64 ((rd_T85 l0_2 x4_2).f3), .bool ((rd_T85 l0_2 x4_2).f4), .bool ((rd_T85 l0_2 x4_2).f5)] 85 (0, 0))) := ⟨(by rw [hw]; exact (by (with_reducible repeat (first | refine blk_drewN ?_ _ | refine blk_drew ?_ | refine blk_alloc ?_ _)); refine blk_put (cs := #[.int .i64 ((rd_T85 l0_2 x4_2).f0), .int .i64 ((rd_T85 l0_2 x4_2).f1), .int .i64 ((rd_T85 l0_2 x4_2).f2), .int .i64 ((rd_T85 l0_2 x4_2).f3), .bool ((rd_T85 l0_2 x4_2).f4), .bool false]) ?_ 5 _ rfl; (with_reducible repeat (first | refine blk_drewN ?_ _ | refine blk_drew ?_ | refine blk_alloc ?_ _)); refine blk_put (cs := #[.int .i64 ((rd_T85 l0_2 x4_2).f0), .int .i64 ((rd_T85 l0_2 x4_2).f1), .int .i64 ((rd_T85 l0_2 x4_2).f2), .int .i64 ((rd_T85 l0_2 x4_2).f3), .bool false, .bool false]) ?_ 4 _ rfl; (with_reducible repeat (first | refine blk_drewN ?_ _ | refine blk_drew ?_ | refine blk_alloc ?_ _)); refine blk_put (cs := #[.int .i64 ((rd_T85 l0_2 x4_2).f0), .int .i64 ((rd_T85 l0_2 x4_2).f1), .int .i64 ((rd_T85 l0_2 x4_2).f2), .int .i64 0, .bool false, .bool false]) ?_ 3 _ rfl; (with_reducible repeat (first | refine blk_drewN ?_ _ | refine blk_drew ?_ | refine blk_alloc ?_ _)); refine blk_put (cs := #[.int .i64 ((rd_T85 l0_2 x4_2).f0), .int .i64 ((rd_T85 l0_2 x4_2).f1), .int .i64 0, .int .i64 0, .bool false, .bool false]) ?_ 2 _ rfl; (with_reducible repeat (first | refine blk_drewN ?_ _ | refine blk_drew ?_ | refine blk_alloc ?_ _)); refine blk_put (cs := #[.int .i64 ((rd_T85 l0_2 x4_2).f0), .int .i64 0, .int .i64 0, .int .i64 0, .bool false, .bool false]) ?_ 1 _ rfl; (with_reducible repeat (first | refine blk_drewN ?_ _ | refine blk_drew ?_ | refine blk_alloc ?_ _)); refine blk_put (cs := #[.int .i64 0, .int .i64 0, .int .i64 0, .int .i64 0, .bool false, .bool false]) ?_ 0 _ rfl; (with_reducible repeat (first | refine blk_drewN ?_ _ | refine blk_drew ?_ | refine blk_alloc ?_ _)); exact BK150.out))⟩; have n2_ : Aside0 (Below w.heap.size w w3005) := ⟨(by rw [hw]; exact wB)⟩; clear hw; clear BK148; clear BK150; clear HB; have BK148 := n0_; have BK150 := n1_; have HB := n2_; clear n0_ n1_ n2_; obtain ⟨⟨hcz3006_0, hcz3006_1, hcz3006_2, hcz3006_3, hcz3006_4, hcz3006_5⟩, hfz3006_0, hfz3006_1, hfz3006_2, hfz3006_3, hfz3006_4, hfz3006_5⟩ := cells6 BK150.out) | (go_at_call 73; (with_reducible refine (spec_l01In.calls ((rd_T85 l0_2 x4_2).f2) 0 1000000000 (by first | (clear bq2_; exact true) | exact false) _ A2006.out).mono ?_); rintro e w' ⟨rfl, ⟨nd, rfl⟩⟩) | (go_at_call 73; (with_reducible refine (spec_l01In.calls ((rd_T85 l0_2 x4_2).f3) 1 1000000 false _ A2008.out).mono ?_); rintro e w' ⟨rfl, ⟨nd, rfl⟩⟩))
 all_goals (try (rename_i h_; exfalso; cases h_; done))
 all_goals (try (rename_i h_ h2_; exfalso; cases h_; done))
 go_ret
 exact ⟨by first | rfl | (simp [errW_none, errW_some] <;> rfl) | (simp [*, errW_none, errW_some] <;> rfl), wB⟩
 )
 )
 {
 go_wp2
 all_goals (try (rename_i h_; exfalso; cases h_; done))
 all_goals (try (rename_i h_ h2_; exfalso; cases h_; done))
 go_ret
 exact ⟨by first | rfl | (simp [errW_none, errW_some] <;> rfl) | (simp [*, errW_none, errW_some] <;> rfl), wB⟩
 }
 }
 )
 }
 }
 )

/-! ### spec_l15Copy: function 84 -/
def spec_l15Copy.f (a0_0 : Int) (a0_1 : Int) (l0_2 : List (S85)) : Option (Int × Int × (List (S85))) := (some (([] : List (S85)) : List (S85))).bind fun y155 => (if y155.length + l0_2.length < 3518437208883 then (some (a0_0, a0_1, (y155 ++ l0_2))) else (none))
def spec_l15Copy.T1 : Bool × List (List Nat × List Nat) := (true, [([], []), ([0], [0]), ([], []), ([2], [2]), ([], []), ([], []), ([5], [5]), ([4, 6], [4, 6]), ([1, 3, 7], [1, 3, 7]), ([8, 7, 0, 1, 2, 3, 4, 5, 6, 7, 8], [8])])
def spec_l15Copy.B1 : List Nat := [0, 1, 0, 4, 0, 0, 32, 112, 255, 511]
theorem spec_l15Copy.tab1 : rtab .any (opsOf Try.f84 1) = spec_l15Copy.T1 := by kernel_rfl
theorem spec_l15Copy.bits1 : waitsOk spec_l15Copy.T1.2 spec_l15Copy.B1 = true := by kernel_rfl
set_option maxHeartbeats 60000000 in
set_option maxRecDepth 100000 in
theorem spec_l15Copy.calls (a0_0 : Int) (a0_1 : Int) (A0_2 : Option Addr) (c0_2 : Nat) (l0_2 : List (S85)) (r1 : Int) (r2 : Int) (r3 : List (S85)) (w : World) (hr0_2 : Kd.C k85 w A0_2 l0_2.length l0_2) (hc0_2 : l0_2.length ≤ c0_2) (h : spec_l15Copy.f a0_0 a0_1 l0_2 = some (r1, r2, r3)) :
    Calls Try.prog 84 #[.agg #[.int .i64 a0_0, .int .i64 a0_1, .slice A0_2 l0_2.length c0_2]] w fun e w' => ∃ v2_ : Value, e = .returned (.agg #[.int .i64 r1, .int .i64 r2, v2_]) ∧ Kd.R k85 85 w' w.heap.size (fun _ => True) v2_ r3 ∧ Below w.heap.size w w' := by
  have hu63 := Try.underlying63
  have HR0_2 := Aside0.mk hr0_2
  have HC0_2 := Aside0.mk hc0_2
  clear hr0_2 hc0_2
  have HB := Aside0.mk (Below.refl w.heap.size w)
  have H : ((some (([] : List (S85)) : List (S85))).bind fun y155 => (if y155.length + l0_2.length < 3518437208883 then (some (a0_0, a0_1, (y155 ++ l0_2))) else (none))) = some (r1, r2, r3) := h
  clear h
  obtain ⟨y155, hy155⟩ : ∃ y_ : List (S85), y_ = (([] : List (S85))) := ⟨_, rfl⟩
  replace H : (if y155.length + l0_2.length < 3518437208883 then (some (a0_0, a0_1, (y155 ++ l0_2))) else (none)) = some (r1, r2, r3) := by first | (rw [hy155]; with_reducible exact H) | (have H2_ := (Option.bind_some _ _).symm.trans H; rw [hy155]; with_reducible exact H2_) | (have H2_ := (Option.bind_some _ _).symm.trans H; with_reducible exact H2_) | with_reducible exact H | (rw [hy155]; exact H) | exact H
  have Ny155 := Aside0.mk hy155
  clear hy155
  by_cases c2 : y155.length + l0_2.length < 3518437208883
  · rw [if_pos c2] at H
    have LMc2 := Aside0.mk c2
    clear c2
    obtain ⟨y158, hy158⟩ : ∃ y_ : List (S85), y_ = (y155 ++ l0_2) := ⟨_, rfl⟩
    replace H : (some (a0_0, a0_1, y158)) = some (r1, r2, r3) := by first | (rw [hy158]; with_reducible exact H) | (have H2_ := (Option.bind_some _ _).symm.trans H; rw [hy158]; with_reducible exact H2_) | (have H2_ := (Option.bind_some _ _).symm.trans H; with_reducible exact H2_) | with_reducible exact H | (rw [hy158]; exact H) | exact H
    have Ny158 := Aside0.mk hy158
    clear hy158
    simp only [Option.some.injEq, Prod.mk.injEq] at H
    obtain ⟨rfl, rfl, rfl⟩ := H
    go_enter Try.func84, Try.ntmps84
    try go_wp2_with (first | ((with_reducible refine gate_dst (N := 1) rfl ?_); refine box_event ?hg (N := 1) ?hd (cs := #[.int .i64 a0_0, .int .i64 a0_1, .slice A0_2 l0_2.length c0_2]) (t := 63) ?hr ?_; (case hd => rfl); (case hg => rfl); (case hr => first | (go_simp; done) | (go_simp; rfl)); intro gb153 hg w1001 hbox hb; have n0_ := Aside0.mk (below_step wB hb); have n1_ := Aside0.mk (hbox); have n2_ := Aside0.mk ((by rw [hg]; exact (below_size wB) : w.heap.size ≤ gb153)); have n3_ := Aside0.mk ((by rw [hg]; exact (below_size wB) : w.heap.size ≤ gb153)); clear HB; have HB := n0_; have BK153 := n1_; have GW153 := n2_; have GE153 := n3_; clear n0_ n1_ n2_ n3_; clear hb hbox hg) | ((with_reducible refine gate_dst (N := 2) rfl ?_); refine box_event ?hg (N := 2) ?hd (cs := #[.int .i64 0, .int .i64 0, .slice none 0 0]) (t := 63) ?hr ?_; (case hd => rfl); (case hg => rfl); (case hr => first | (go_simp; done) | (go_simp; rfl)); intro gb154 hg w1002 hbox hb; have n0_ := Aside0.mk (blk_below (Bh BK153) hb); have n1_ := Aside0.mk (below_step wB hb); have n2_ := Aside0.mk (hbox); have n3_ := Aside0.mk ((by rw [hg]; exact (below_size wB) : w.heap.size ≤ gb154)); have n4_ := Aside0.mk ((by rw [hg]; exact (below_size wB) : w.heap.size ≤ gb154)); have n5_ := Aside0.mk ((by rw [hg]; exact Nat.ne_of_lt (blk_lt (Bh BK153)) : gb153 ≠ gb154)); have n6_ := Aside0.mk ((by rw [hg]; exact Nat.ne_of_gt (blk_lt (Bh BK153)) : gb154 ≠ gb153)); clear BK153; clear HB; have BK153 := n0_; have HB := n1_; have BK154 := n2_; have GW154 := n3_; have GE154 := n4_; have NB153_154 := n5_; have NB154_153 := n6_; clear n0_ n1_ n2_ n3_ n4_ n5_ n6_; clear hb hbox hg))
    have n0_ := Aside0.mk (blk_drew BK153.out)
    have n1_ := Aside0.mk (blk_drew BK154.out)
    have n2_ := Aside0.mk (below_drew1 HB.out)
    clear BK153
    clear BK154
    clear HB
    have BK153 := n0_
    have BK154 := n1_
    have HB := n2_
    clear n0_ n1_ n2_
    refine start_ (n := 10) (S := fun w' => w'.cell? ⟨gb153, 0, none⟩ = some (.int .i64 a0_0) ∧ w'.cell? ⟨gb153, 1, none⟩ = some (.int .i64 a0_1) ∧ w'.cell? ⟨gb153, 2, none⟩ = some (.slice A0_2 l0_2.length c0_2)) (ds := []) #[false, false, false, false, false, false, false, false, false, false] (by kernel_rfl) rfl rfl ⟨(blk_cell BK153.out 0).trans rfl, (blk_cell BK153.out 1).trans rfl, (blk_cell BK153.out 2).trans rfl⟩ (fun hHeld => ?_); refine with_tabW spec_l15Copy.tab1 spec_l15Copy.bits1 (fun HT_ HW_ => ?_)
    generalize w1002.drew = w1003 at BK153 BK154 HB hHeld ⊢
    refine pure_ (i := 0) (N := some 3) (v := ?_) (a' := ?_) #[true, false, false, false, false, false, false, false, false, false] rfl rfl (any_of HT_.out (by kernel_rfl)) (fun _ _ _ h => h) (Or.inl ⟨by rfl, ?_⟩) ?_ ?_
    rotate_left
    · intro w'
      go_simp
      with_reducible rfl
    rotate_left
    · simp only [Act.put, List.setIfInBounds_toArray, List.set_cons_zero, List.set_cons_succ, i64_w, i32_w]
      rfl
    refine pure_ (i := 2) (N := some 5) (v := ?_) (a' := ?_) #[true, false, true, false, false, false, false, false, false, false] rfl rfl (any_of HT_.out (by kernel_rfl)) (fun _ _ _ h => h) (Or.inl ⟨by rfl, ?_⟩) ?_ ?_
    rotate_left
    · intro w'
      go_simp
      with_reducible rfl
    rotate_left
    · simp only [Act.put, List.setIfInBounds_toArray, List.set_cons_zero, List.set_cons_succ, i64_w, i32_w]
      rfl
    refine pure_ (i := 5) (N := some 8) (v := ?_) (a' := ?_) #[true, false, true, false, false, true, false, false, false, false] rfl rfl (any_of HT_.out (by kernel_rfl)) (fun _ _ _ h => h) (Or.inl ⟨by rfl, ?_⟩) ?_ ?_
    rotate_left
    · intro w'
      go_simp
      with_reducible rfl
    rotate_left
    · simp only [Act.put, List.setIfInBounds_toArray, List.set_cons_zero, List.set_cons_succ, i64_w, i32_w]
      rfl
    refine take_ (i := 1) (N := some 4) (v := ?_) (a' := ?_) #[true, true, true, false, false, true, false, false, false, false] rfl rfl (take_ofW HT_.out HW_.out (by kernel_rfl)) (fun _ _ _ h => h) (Or.inl ⟨by rfl, ?_⟩) hHeld ?_ ?_
    rotate_left
    · rintro w' ⟨s0, s1, s2⟩
      go_simp
      with_reducible rfl
    rotate_left
    · simp only [Act.put, List.setIfInBounds_toArray, List.set_cons_zero, List.set_cons_succ, i64_w, i32_w]
      rfl
    refine take_ (i := 3) (N := some 6) (v := ?_) (a' := ?_) #[true, true, true, true, false, true, false, false, false, false] rfl rfl (take_ofW HT_.out HW_.out (by kernel_rfl)) (fun _ _ _ h => h) (Or.inl ⟨by rfl, ?_⟩) hHeld ?_ ?_
    rotate_left
    · rintro w' ⟨s0, s1, s2⟩
      go_simp
      with_reducible rfl
    rotate_left
    · simp only [Act.put, List.setIfInBounds_toArray, List.set_cons_zero, List.set_cons_succ, i64_w, i32_w]
      rfl
    refine take_ (i := 6) (N := some 9) (v := ?_) (a' := ?_) #[true, true, true, true, false, true, true, false, false, false] rfl rfl (take_ofW HT_.out HW_.out (by kernel_rfl)) (fun _ _ _ h => h) (Or.inl ⟨by rfl, ?_⟩) hHeld ?_ ?_
    rotate_left
    · rintro w' ⟨s0, s1, s2⟩
      go_simp
      with_reducible rfl
    rotate_left
    · simp only [Act.put, List.setIfInBounds_toArray, List.set_cons_zero, List.set_cons_succ, i64_w, i32_w]
      rfl
    refine one_ (i := 4) (N := some 7) #[true, true, true, true, true, true, true, false, false, false] rfl rfl (one_of HT_.out (by kernel_rfl)) (by decide) (fun K hK => ?_)
    refine Kd.R_lit_step k85 _ 85 ?hg (N := 7) ?hd (xs := ([] : List (S85))) (inner := []) (ok := fun _ => True) (okp := fun _ => True) ?hr ?hp (fun _ hk => hk) trivial (Below.refl _ _) (Nat.le_refl _) (by simp) ?_; (case hd => rfl); (case hg => rfl); (case hr => first | (go_simp; done) | (go_simp; rfl)); (case hp => exact (Reps.none _ _))
    intro v156 w1004 ho1005 hb hg_ hnew_
    clear hg_ hnew_
    (first | rw [← Ny155.out] at ho1005 | (simp only [Int.reduceToNat] at ho1005; rw [← Ny155.out] at ho1005))
    have n0_ := Aside0.mk (Kd.R_lower ho1005 (below_size wB))
    have n1_ := Aside0.mk (blk_below (Bh BK153) hb)
    have n2_ := Aside0.mk (blk_below (Bh BK154) hb)
    have n3_ := Aside0.mk (below_step wB hb)
    clear BK153
    clear BK154
    clear HB
    have HO157 := n0_
    have BK153 := n1_
    have BK154 := n2_
    have HB := n3_
    clear n0_ n1_ n2_ n3_
    clear hb ho1005
    refine hK.out _ _ ⟨(blk_cell BK153.out 0).trans rfl, (blk_cell BK153.out 1).trans rfl, (blk_cell BK153.out 2).trans rfl⟩ (fun hHeld => ?_)
    clear hK K
    refine norm_ (a' := ?_) ?_ ?_
    rotate_left
    · show Act.put _ (some 7) _ = _
      simp only [Act.put, List.setIfInBounds_toArray, List.set_cons_zero, List.set_cons_succ, i64_w, i32_w]
      rfl
    refine one_ (i := 7) (N := some 10) #[true, true, true, true, true, true, true, true, false, false] rfl rfl (one_of HT_.out (by kernel_rfl)) (by decide) (fun K hK => ?_)
    refine Kd.R_append_rows_step k85 (w0 := w) w.heap.size (by rfl) (.tmp 7) (.tmp 9) 61 85 (.agg #[(.int .i64 0), (.int .i64 0), (.int .i64 0), (.int .i64 0), (.bool false), (.bool false)]) 40 rfl Try.underlying61 info85 rfl (by decide) (by omega) v156 y155 l0_2 _ _ _ (fun _ => True) (fun _ => False) rfl rfl ?aO ?aR (fun _ _ h => h) (fun _ h => h.elim) ?aF ?aB ?aS ?aL ?_
    (case aR => exact Kd.C_below HR0_2.out wB)
    (case aB => exact wB)
    (case aF => exact (fun _ _ => trivial))
    (case aO => exact (Rh HO157))
    (case aS => exact (below_size wB))
    (case aL => have := LMc2.out; omega)
    intro v159 w1006 ho hb hg hat
    rw [← Ny158.out] at ho
    have n0_ := Aside0.mk (blk_grown (Bh BK153) hg (Kd.R_ne HO157.out BK153.out (by decide)))
    have n1_ := Aside0.mk (blk_grown (Bh BK154) hg (Kd.R_ne HO157.out BK154.out (by decide)))
    have n2_ := Aside0.mk (hb)
    have n3_ := Aside0.mk (ho)
    clear BK153
    clear BK154
    clear HB
    clear HO157
    have BK153 := n0_
    have BK154 := n1_
    have HB := n2_
    have HO160 := n3_
    clear n0_ n1_ n2_ n3_
    clear ho hb hg hat
    obtain ⟨Ao1007, co1007, eo1007⟩ := Kd.R_slice HO160.out
    (first | subst eo1007 | (injection eo1007 with f1_ f2_ f3_; have f4_ := f1_.symm; have f5_ := f3_.symm; clear f1_ f2_ f3_; subst f4_; subst f5_))
    refine hK.out _ _ ⟨(blk_cell BK153.out 0).trans rfl, (blk_cell BK153.out 1).trans rfl, (blk_cell BK153.out 2).trans rfl⟩ (fun hHeld => ?_)
    clear hK K
    refine norm_ (a' := ?_) ?_ ?_
    rotate_left
    · show Act.put _ (some 10) _ = _
      simp only [Act.put, List.setIfInBounds_toArray, List.set_cons_zero, List.set_cons_succ, i64_w, i32_w]
      rfl
    refine pure_ (i := 8) (N := some 11) (v := ?_) (a' := ?_) #[true, true, true, true, true, true, true, true, true, false] rfl rfl (any_of HT_.out (by kernel_rfl)) (fun _ _ _ h => h) (Or.inl ⟨by rfl, ?_⟩) ?_ ?_
    rotate_left
    · intro w'
      go_simp
      with_reducible rfl
    rotate_left
    · simp only [Act.put, List.setIfInBounds_toArray, List.set_cons_zero, List.set_cons_succ, i64_w, i32_w]
      rfl
    refine one_ (i := 9) (N := none) #[true, true, true, true, true, true, true, true, true, true] rfl rfl (one_of HT_.out (by kernel_rfl)) (by decide) (fun K hK => ?_)
    have hs1008 : w1006.cell? ⟨gb154, 0, none⟩ = some (.int .i64 0) := (blk_cell BK154.out 0).trans rfl
    have hfs1008 := blk_frozen BK154.out 0
    have hns1008_0 := NB153_154.out
    have hms1008_0 := NB154_153.out
    have hs1009 : w1006.cell? ⟨gb154, 1, none⟩ = some (.int .i64 0) := (blk_cell BK154.out 1).trans rfl
    have hfs1009 := blk_frozen BK154.out 1
    have hns1009_0 := NB153_154.out
    have hms1009_0 := NB154_153.out
    have hs1010 : w1006.cell? ⟨gb154, 2, none⟩ = some (.slice none 0 0) := (blk_cell BK154.out 2).trans rfl
    have hfs1010 := blk_frozen BK154.out 2
    have hns1010_0 := NB153_154.out
    have hms1010_0 := NB154_153.out
    refine skip_ (w1 := ?_) (by rfl) rfl ?_ ?_
    rotate_left
    · go_simp
      rfl
    refine hK.out _ _ ⟨((cell_far (p := ⟨gb154, _, none⟩) NB153_154.out _).trans (((cell_far (p := ⟨gb154, _, none⟩) NB153_154.out _).trans (((cell_far (p := ⟨gb154, _, none⟩) NB153_154.out _).trans (hHeld.1)))))), ((cell_far (p := ⟨gb154, _, none⟩) NB153_154.out _).trans (((cell_far (p := ⟨gb154, _, none⟩) NB153_154.out _).trans (((cell_far (p := ⟨gb154, _, none⟩) NB153_154.out _).trans (hHeld.2.1)))))), ((cell_far (p := ⟨gb154, _, none⟩) NB153_154.out _).trans (((cell_far (p := ⟨gb154, _, none⟩) NB153_154.out _).trans (((cell_far (p := ⟨gb154, _, none⟩) NB153_154.out _).trans (hHeld.2.2))))))⟩ (fun hHeld => ?_)
    clear hK K
    refine done_ (done_of HT_.out (by kernel_rfl)) ?_
    try go_wp2
    refine bodyPost_ret (results_cell_row rfl _ _ gb154 63 #[.int .i64 a0_0, .int .i64 a0_1, .slice Ao1007 y158.length co1007] (0, 0) _ rfl (by (with_reducible repeat (first | refine blk_drewN ?_ _ | refine blk_drew ?_ | refine blk_alloc ?_ _)); refine blk_put (cs := #[.int .i64 a0_0, .int .i64 a0_1, .slice none 0 0]) ?_ 2 _ rfl; (with_reducible repeat (first | refine blk_drewN ?_ _ | refine blk_drew ?_ | refine blk_alloc ?_ _)); refine blk_put (cs := #[.int .i64 a0_0, .int .i64 0, .slice none 0 0]) ?_ 1 _ rfl; (with_reducible repeat (first | refine blk_drewN ?_ _ | refine blk_drew ?_ | refine blk_alloc ?_ _)); refine blk_put (cs := #[.int .i64 0, .int .i64 0, .slice none 0 0]) ?_ 0 _ rfl; (with_reducible repeat (first | refine blk_drewN ?_ _ | refine blk_drew ?_ | refine blk_alloc ?_ _)); exact BK154.out) Try.underlying63 rfl (by kernel_rfl)) rfl ?_
    exact ⟨_, by first | rfl | (simp [errW_none, errW_some] <;> rfl) | (simp [*, errW_none, errW_some] <;> rfl), by (with_reducible repeat (first | apply Kd.R_alloc | apply Kd.R_drewN | apply Kd.R_drew)); exact Kd.R_mono (Kd.R_far (p := ⟨gb154, 2, none⟩) (Kd.R_far (p := ⟨gb154, 1, none⟩) (Kd.R_far (p := ⟨gb154, 0, none⟩) (Kd.R_types HO160.out BK154.out (by decide)) (fun _ hk => hk.2) (.int .i64 a0_0)) (fun _ hk => hk.2) (.int .i64 a0_1)) (fun _ hk => hk.2) (.slice Ao1007 y158.length co1007)) (fun _ hk => trivial), wB⟩
  · rw [if_neg c2] at H
    exact absurd H (by simp)

end Go.Proofs.Ytkfbcmbemihbnaa.PFnExactBoardAgain
