-- Written for this claim by a program of this session (wip/mkprint.py: the print, turned at a few places). Not trusted: Lean checks it.
import Derived.Test.YtmgapmpmmkmdhaaDoorPFnExactShowRulesx0
import Derived.Test.YtmgapmpmmkmdhaaDoorPFnExactShowRulesx6
import Derived.Test.YtmgapmpmmkmdhaaDoorPFnExactShowRulesx7
namespace Go.Proofs.YtmgapmpmmkmdhaaDoor.PFnExactShowRules
open Go.RowKit Go.Proofs.YtmgapmpmmkmdhaaDoorW.PrintWords Go.Proofs.YtmgapmpmmkmdhaaDoorW.PrintLast Go.Proofs.YtmgapmpmmkmdhaaDoorW.PrintMore
attribute [local go_sem] max2_int min2_int max_two min_two max_three min_three max_four min_four   -- for this text's walks alone
set_option linter.unusedVariables false
set_option linter.unusedSimpArgs false

/-! ### impl_ShowRules: function 7 -/
def impl_ShowRules.l0 : Nat → ByteArray → List (S33) → Int → Int → Option (ByteArray × Int)
  | 0, _, _, _, _ => none
  | k + 1, x4, x10, x11, x12 => if x12 < x11 then (if 0 ≤ x12 then (if x12 < (x10.length : Int) then ((impl_okRule.f k ((rd_T33 x10 x12).f0) ((rd_T33 x10 x12).f1) ((rd_T33 x10 x12).f2) ((rd_T33 x10 x12).f3.f0) ((rd_T33 x10 x12).f3.f1) ((rd_T33 x10 x12).f4) ((rd_T33 x10 x12).f5) ((rd_T33 x10 x12).f6.f0) ((rd_T33 x10 x12).f6.f1) ((rd_T33 x10 x12).f7) ((rd_T33 x10 x12).f8) ((rd_T33 x10 x12).f9)).bind fun t212 => (if t212 = true then ((impl_showRule.f k ((rd_T33 x10 x12).f0) ((rd_T33 x10 x12).f1) ((rd_T33 x10 x12).f2) ((rd_T33 x10 x12).f3.f0) ((rd_T33 x10 x12).f3.f1) ((rd_T33 x10 x12).f4) ((rd_T33 x10 x12).f5) ((rd_T33 x10 x12).f6.f0) ((rd_T33 x10 x12).f6.f1) ((rd_T33 x10 x12).f7) ((rd_T33 x10 x12).f8) ((rd_T33 x10 x12).f9)).bind fun t213 => (if t213.size + 1 ≤ 9223372036854775807 then (if x4.size + (t213 ++ (⟨#[10]⟩ : ByteArray)).size ≤ 9223372036854775807 then (impl_ShowRules.l0 k (x4 ++ (t213 ++ (⟨#[10]⟩ : ByteArray))) x10 x11 (wrap64 (x12 + 1))) else (none)) else (none))) else (some ((⟨#[]⟩ : ByteArray), 1)))) else (none)) else (none)) else (some (x4, 0))
def impl_ShowRules.f (k : Nat) (l0 : List (S33)) : Option (ByteArray × Int) := if (l0.length : Int) > 64 then (some ((⟨#[]⟩ : ByteArray), 8)) else (impl_ShowRules.l0 k (⟨#[]⟩ : ByteArray) l0 (l0.length : Int) 0)
theorem impl_ShowRules.mono_l : ∀ k, (∀ y0 y1 y2 y3, LeO (impl_ShowRules.l0 k y0 y1 y2 y3) (impl_ShowRules.l0 (k + 1) y0 y1 y2 y3))
  | 0 => fun _ _ _ _ r h => by simp [impl_ShowRules.l0] at h
  | k + 1 => by
    have ih0 := impl_ShowRules.mono_l k
    · intro y0 y1 y2 y3
      unfold impl_ShowRules.l0
      repeat' first
      | (with_reducible exact ih0 _ _ _ _)
      | (with_reducible exact impl_okRule.mono _ _ _ _ _ _ _ _ _ _ _ _ _)
      | (with_reducible exact impl_showRule.mono _ _ _ _ _ _ _ _ _ _ _ _ _)
      | (with_reducible exact LeO.refl _)
      | (with_reducible exact LeO.none _)
      | (with_reducible refine LeO.ite ?_ ?_)
      | (with_reducible refine LeO.bind ?_ (fun _ => ?_))
      | exact ih0 _ _ _ _
      | exact impl_okRule.mono _ _ _ _ _ _ _ _ _ _ _ _ _
      | exact impl_showRule.mono _ _ _ _ _ _ _ _ _ _ _ _ _
      | exact LeO.none _
      | refine LeO.ite ?_ ?_
      | refine LeO.bind ?_ (fun _ => ?_)
theorem impl_ShowRules.mono : ∀ a0 k, LeO (impl_ShowRules.f k a0) (impl_ShowRules.f (k + 1) a0) := by
 intro a0 k
 have ih0 := impl_ShowRules.mono_l k
 unfold impl_ShowRules.f
 repeat' first
     | (with_reducible exact ih0 _ _ _ _)
     | (with_reducible exact impl_okRule.mono _ _ _ _ _ _ _ _ _ _ _ _ _)
     | (with_reducible exact impl_showRule.mono _ _ _ _ _ _ _ _ _ _ _ _ _)
     | (with_reducible exact LeO.refl _)
     | (with_reducible exact LeO.none _)
     | (with_reducible refine LeO.ite ?_ ?_)
     | (with_reducible refine LeO.bind ?_ (fun _ => ?_))
     | exact ih0 _ _ _ _
     | exact impl_okRule.mono _ _ _ _ _ _ _ _ _ _ _ _ _
     | exact impl_showRule.mono _ _ _ _ _ _ _ _ _ _ _ _ _
     | exact LeO.none _
     | refine LeO.ite ?_ ?_
     | refine LeO.bind ?_ (fun _ => ?_)
set_option maxHeartbeats 60000000 in
set_option maxRecDepth 100000 in
theorem impl_ShowRules.calls (k : Nat) (A0 : Option Addr) (c0 : Nat) (l0 : List (S33)) (r1 : ByteArray) (r2 : Int) (w : World) (hr0 : Kd.C k33 w A0 l0.length l0) (hc0 : l0.length ≤ c0) (hd : Door w) (h : impl_ShowRules.f k l0 = some (r1, r2)) :
 Calls Tryd.prog 7 #[.slice A0 l0.length c0] w fun e w' => e = .returned (.tuple #[.string r1, .int .i64 r2]) ∧ Below w.heap.size w w' := by
 have hu33 := Tryd.underlying33
 have HR0 := Aside0.mk hr0
 have HC0 := Aside0.mk hc0
 clear hr0 hc0
 have HD := Aside0.mk hd
 clear hd
 have HB := Aside0.mk (Below.refl w.heap.size w)
 have H : (if (l0.length : Int) > 64 then (some ((⟨#[]⟩ : ByteArray), 8)) else (impl_ShowRules.l0 k (⟨#[]⟩ : ByteArray) l0 (l0.length : Int) 0)) = some (r1, r2) := h
 clear h
 by_cases c2 : (l0.length : Int) > 64
 {
 rw [if_pos c2] at H
 have c2b0 : decide (64 < (l0.length : Int)) = true := decide_eq_true c2
 have c2b1 : decide (64 < l0.length) = true := decide_eq_true (by omega)
 clear c2
 simp only [Option.some.injEq, Prod.mk.injEq] at H
 obtain ⟨rfl, rfl⟩ := H
 go_enter Tryd.func7, Tryd.ntmps7
 go_wp2
 go_ret2
 exact ⟨by first | rfl | (simp [errW_none, errW_some] <;> rfl) | (simp [*, errW_none, errW_some] <;> rfl), wB⟩
 }
 {
 rw [if_neg c2] at H
 have c2b0 : decide (64 < (l0.length : Int)) = false := decide_eq_false c2
 have c2b1 : decide (64 < l0.length) = false := decide_eq_false (by omega)
 clear c2
 have H' := Aside0.mk H
 clear H
 go_enter Tryd.func7, Tryd.ntmps7
 go_wp2
 go_loopg [4, 12] k (fun kq v4 v12 w' => ∃ (x4_1 : ByteArray) (x12_1 : Int), v4 = .string x4_1 ∧ v12 = .int .i64 x12_1 ∧ Aside0 (impl_ShowRules.l0 kq x4_1 l0 (l0.length : Int) x12_1 = some (r1, r2)) ∧ Aside0 (kq ≤ k) ∧ Aside0 (Below w.heap.size w w'))
 case atStart => exact ⟨((⟨#[]⟩ : ByteArray)), (0), (by first | rfl | (simp; done) | (simp [*]; done)), (by first | rfl | (simp; done) | (simp [*]; done)), H', ⟨Nat.le_refl _⟩, ⟨wB⟩⟩
 case round => (
 clear H'
 try clear c2
 try clear c2b0
 try clear c2b1
 try clear p2
 obtain ⟨x4_1, x12_1, rfl, rfl, HA, HK1, HB⟩ := hrel
 cases gk with
 | zero => exact absurd HA.out (by simp [impl_ShowRules.l0])
 | succ k1 => {
 have H := HA.out
 clear HA
 simp only [impl_ShowRules.l0] at H
 by_cases c1001 : x12_1 < (l0.length : Int)
 rw [if_pos c1001] at H
 have c1001b0 : decide (x12_1 < (l0.length : Int)) = true := decide_eq_true c1001
 clear c1001
 by_cases c1002 : 0 ≤ x12_1
 rw [if_pos c1002] at H
 have c1002b0 : decide (0 ≤ x12_1) = true := decide_eq_true c1002
 clear c1002
 by_cases c1003 : x12_1 < (l0.length : Int)
 rw [if_pos c1003] at H
 have c1003b0 : decide (x12_1 < (l0.length : Int)) = true := decide_eq_true c1003
 clear c1003
 replace H := Option.bind_eq_some_iff.mp H
 obtain ⟨t212, A10040, H⟩ := H
 replace H : (if t212 = true then ((impl_showRule.f k1 ((rd_T33 l0 x12_1).f0) ((rd_T33 l0 x12_1).f1) ((rd_T33 l0 x12_1).f2) ((rd_T33 l0 x12_1).f3.f0) ((rd_T33 l0 x12_1).f3.f1) ((rd_T33 l0 x12_1).f4) ((rd_T33 l0 x12_1).f5) ((rd_T33 l0 x12_1).f6.f0) ((rd_T33 l0 x12_1).f6.f1) ((rd_T33 l0 x12_1).f7) ((rd_T33 l0 x12_1).f8) ((rd_T33 l0 x12_1).f9)).bind fun t213 => (if t213.size + 1 ≤ 9223372036854775807 then (if x4_1.size + (t213 ++ (⟨#[10]⟩ : ByteArray)).size ≤ 9223372036854775807 then (impl_ShowRules.l0 k1 (x4_1 ++ (t213 ++ (⟨#[10]⟩ : ByteArray))) l0 (l0.length : Int) (wrap64 (x12_1 + 1))) else (none)) else (none))) else (some ((⟨#[]⟩ : ByteArray), 1))) = some (r1, r2) := H
 have A1004 := Aside0.mk A10040
 clear A10040
 by_cases c1005 : t212 = true
 subst c1005
 have H1 : ((impl_showRule.f k1 ((rd_T33 l0 x12_1).f0) ((rd_T33 l0 x12_1).f1) ((rd_T33 l0 x12_1).f2) ((rd_T33 l0 x12_1).f3.f0) ((rd_T33 l0 x12_1).f3.f1) ((rd_T33 l0 x12_1).f4) ((rd_T33 l0 x12_1).f5) ((rd_T33 l0 x12_1).f6.f0) ((rd_T33 l0 x12_1).f6.f1) ((rd_T33 l0 x12_1).f7) ((rd_T33 l0 x12_1).f8) ((rd_T33 l0 x12_1).f9)).bind fun t213 => (if t213.size + 1 ≤ 9223372036854775807 then (if x4_1.size + (t213 ++ (⟨#[10]⟩ : ByteArray)).size ≤ 9223372036854775807 then (impl_ShowRules.l0 k1 (x4_1 ++ (t213 ++ (⟨#[10]⟩ : ByteArray))) l0 (l0.length : Int) (wrap64 (x12_1 + 1))) else (none)) else (none))) = some (r1, r2) := by rw [if_pos rfl] at H; exact H
 clear H
 have H := H1
 clear H1
 replace H := Option.bind_eq_some_iff.mp H
 obtain ⟨t213, A10060, H⟩ := H
 replace H : (if t213.size + 1 ≤ 9223372036854775807 then (if x4_1.size + (t213 ++ (⟨#[10]⟩ : ByteArray)).size ≤ 9223372036854775807 then (impl_ShowRules.l0 k1 (x4_1 ++ (t213 ++ (⟨#[10]⟩ : ByteArray))) l0 (l0.length : Int) (wrap64 (x12_1 + 1))) else (none)) else (none)) = some (r1, r2) := H
 have A1006 := Aside0.mk A10060
 clear A10060
 by_cases c1007 : t213.size + 1 ≤ 9223372036854775807
 rw [if_pos c1007] at H
 have c1007b0 := eq_true c1007
 have c1007b1 : decide (t213.size + 1 ≤ 9223372036854775807) = true := decide_eq_true c1007
 try have c1007b2 : (9223372036854775807 < t213.size + 1) = False := eq_false (Nat.not_lt.2 c1007)
 by_cases c1008 : x4_1.size + (t213 ++ (⟨#[10]⟩ : ByteArray)).size ≤ 9223372036854775807
 rw [if_pos c1008] at H
 have c1008b0 := eq_true c1008
 have c1008b1 : decide (x4_1.size + (t213 ++ (⟨#[10]⟩ : ByteArray)).size ≤ 9223372036854775807) = true := decide_eq_true c1008
 try have c1008b2 : (9223372036854775807 < x4_1.size + (t213 ++ (⟨#[10]⟩ : ByteArray)).size) = False := eq_false (Nat.not_lt.2 c1008)
 (try (have c1008b5 := c1008b2; simp only [ByteArray.size_append, show (⟨#[10]⟩ : ByteArray).size = 1 from rfl] at c1008b5))
 have H' := Aside0.mk H
 clear H
 have bq1_ : True := trivial
 rotate_left
 rw [if_neg c1008] at H
 exact absurd H (by simp)
 rw [if_neg c1007] at H
 exact absurd H (by simp)
 replace c1005 := Bool.eq_false_iff.mpr c1005
 subst c1005
 have H1 : (some ((⟨#[]⟩ : ByteArray), 1)) = some (r1, r2) := by rw [if_neg (show ¬ (false = true) by decide)] at H; exact H
 clear H
 have H := H1
 clear H1
 simp only [Option.some.injEq, Prod.mk.injEq] at H
 obtain ⟨rfl, rfl⟩ := H
 rotate_left
 rw [if_neg c1003] at H
 exact absurd H (by simp)
 rw [if_neg c1002] at H
 exact absurd H (by simp)
 rw [if_neg c1001] at H
 have c1001b0 : decide (x12_1 < (l0.length : Int)) = false := decide_eq_false c1001
 clear c1001
 simp only [Option.some.injEq, Prod.mk.injEq] at H
 obtain ⟨rfl, rfl⟩ := H
 rotate_left
 iterate 2 (
 focus (
 have p210 : 0 ≤ (x12_1 : Int) := of_decide_eq_true (by first | (with_reducible assumption) | assumption)
 have q210 : x12_1 < (l0.length : Int) := of_decide_eq_true (by first | (with_reducible assumption) | assumption)
 obtain ⟨ad210, e210, hx210_0, hx210_1, hx210_2, hx210_3, hx210_4, hx210_5, hx210_6, hx210_7, hx210_8, hx210_9, hx210_10, hx210_11⟩ := at_T33 HR0.out x12_1 p210 q210
 cases e210
 replace hx210_0 := (HB.out.cell (World.block_lt_of_cell? w _ hx210_0)).trans hx210_0
 replace hx210_1 := (HB.out.cell (World.block_lt_of_cell? w _ hx210_1)).trans hx210_1
 replace hx210_2 := (HB.out.cell (World.block_lt_of_cell? w _ hx210_2)).trans hx210_2
 replace hx210_3 := (HB.out.cell (World.block_lt_of_cell? w _ hx210_3)).trans hx210_3
 replace hx210_4 := (HB.out.cell (World.block_lt_of_cell? w _ hx210_4)).trans hx210_4
 replace hx210_5 := (HB.out.cell (World.block_lt_of_cell? w _ hx210_5)).trans hx210_5
 replace hx210_6 := (HB.out.cell (World.block_lt_of_cell? w _ hx210_6)).trans hx210_6
 replace hx210_7 := (HB.out.cell (World.block_lt_of_cell? w _ hx210_7)).trans hx210_7
 replace hx210_8 := (HB.out.cell (World.block_lt_of_cell? w _ hx210_8)).trans hx210_8
 replace hx210_9 := (HB.out.cell (World.block_lt_of_cell? w _ hx210_9)).trans hx210_9
 replace hx210_10 := (HB.out.cell (World.block_lt_of_cell? w _ hx210_10)).trans hx210_10
 replace hx210_11 := (HB.out.cell (World.block_lt_of_cell? w _ hx210_11)).trans hx210_11
 replace p210 := eq_true p210
 replace q210 := eq_true q210
 )
 rotate_left
 )
 rotate_right 2
 {
 go_wp2_with (first | ((with_reducible refine gate_dst (N := 6) rfl ?_); refine box_event ?hg (N := 6) ?hd (cs := #[.int .i64 0, .int .i64 0, .int .i64 0, .int .i64 0, .int .i64 0, .int .i64 0, .int .i64 0, .int .i64 0, .int .i64 0, .int .i64 0, .int .i64 0, .int .i64 0]) (t := 33) ?hr ?_; (case hd => rfl); (case hg => rfl); (case hr => first | (go_simp; done) | (go_simp; rfl)); intro gb211 hg w2001 hbox hb; have n0_ := Aside0.mk (below_step wB hb); have n1_ := Aside0.mk (hbox); have n2_ := Aside0.mk ((by rw [hg]; exact (below_size wB) : w.heap.size ≤ gb211)); have n3_ := Aside0.mk ((by rw [hg]; exact (below_size wB) : w.heap.size ≤ gb211)); clear HB; have HB := n0_; have BK211 := n1_; have GW211 := n2_; have GE211 := n3_; clear n0_ n1_ n2_ n3_; clear hb hbox hg; obtain ⟨⟨hcz2002_0, hcz2002_1, hcz2002_2, hcz2002_3, hcz2002_4, hcz2002_5, hcz2002_6, hcz2002_7, hcz2002_8, hcz2002_9, hcz2002_10, hcz2002_11⟩, hfz2002_0, hfz2002_1, hfz2002_2, hfz2002_3, hfz2002_4, hfz2002_5, hfz2002_6, hfz2002_7, hfz2002_8, hfz2002_9, hfz2002_10, hfz2002_11⟩ := cells12 BK211.out) | ((with_reducible refine gate_store (t := 33) (p := 6) rfl ?_); refine store_event (t := 33) (p := 6) (v := ?_) (w1 := ((((((((((((w2001.setCell ⟨gb211, 0, none⟩ (.int .i64 ((rd_T33 l0 x12_1).f0))).setCell ⟨gb211, 1, none⟩ (.int .i64 ((rd_T33 l0 x12_1).f1))).setCell ⟨gb211, 2, none⟩ (.int .i64 ((rd_T33 l0 x12_1).f2))).setCell ⟨gb211, 3, none⟩ (.int .i64 ((rd_T33 l0 x12_1).f3.f0))).setCell ⟨gb211, 4, none⟩ (.int .i64 ((rd_T33 l0 x12_1).f3.f1))).setCell ⟨gb211, 5, none⟩ (.int .i64 ((rd_T33 l0 x12_1).f4))).setCell ⟨gb211, 6, none⟩ (.int .i64 ((rd_T33 l0 x12_1).f5))).setCell ⟨gb211, 7, none⟩ (.int .i64 ((rd_T33 l0 x12_1).f6.f0))).setCell ⟨gb211, 8, none⟩ (.int .i64 ((rd_T33 l0 x12_1).f6.f1))).setCell ⟨gb211, 9, none⟩ (.int .i64 ((rd_T33 l0 x12_1).f7))).setCell ⟨gb211, 10, none⟩ (.int .i64 ((rd_T33 l0 x12_1).f8))).setCell ⟨gb211, 11, none⟩ (.int .i64 ((rd_T33 l0 x12_1).f9)))) ?hg ?ho ?hn ?hr ?_; (case ho => rfl); (case hg => rfl); (case hn => rfl); (case hr => first | (go_simp; done) | (go_simp; rfl)); intro w2003 hw; have n0_ : Aside0 (w2003.heap[gb211]? = some (.cells #[.int .i64 ((rd_T33 l0 x12_1).f0), .int .i64 ((rd_T33 l0 x12_1).f1), .int .i64 ((rd_T33 l0 x12_1).f2), .int .i64 ((rd_T33 l0 x12_1).f3.f0), .int .i64 ((rd_T33 l0 x12_1).f3.f1), .int .i64 ((rd_T33 l0 x12_1).f4), .int .i64 ((rd_T33 l0 x12_1).f5), .int .i64 ((rd_T33 l0 x12_1).f6.f0), .int .i64 ((rd_T33 l0 x12_1).f6.f1), .int .i64 ((rd_T33 l0 x12_1).f7), .int .i64 ((rd_T33 l0 x12_1).f8), .int .i64 ((rd_T33 l0 x12_1).f9)] 33 (0, 0))) := ⟨(by rw [hw]; exact (by (with_reducible repeat (first | refine blk_drewN ?_ _ | refine blk_drew ?_ | refine blk_alloc ?_ _)); refine blk_put (cs := #[.int .i64 ((rd_T33 l0 x12_1).f0), .int .i64 ((rd_T33 l0 x12_1).f1), .int .i64 ((rd_T33 l0 x12_1).f2), .int .i64 ((rd_T33 l0 x12_1).f3.f0), .int .i64 ((rd_T33 l0 x12_1).f3.f1), .int .i64 ((rd_T33 l0 x12_1).f4), .int .i64 ((rd_T33 l0 x12_1).f5), .int .i64 ((rd_T33 l0 x12_1).f6.f0), .int .i64 ((rd_T33 l0 x12_1).f6.f1), .int .i64 ((rd_T33 l0 x12_1).f7), .int .i64 ((rd_T33 l0 x12_1).f8), .int .i64 0]) ?_ 11 _ rfl; (with_reducible repeat (first | refine blk_drewN ?_ _ | refine blk_drew ?_ | refine blk_alloc ?_ _)); refine blk_put (cs := #[.int .i64 ((rd_T33 l0 x12_1).f0), .int .i64 ((rd_T33 l0 x12_1).f1), .int .i64 ((rd_T33 l0 x12_1).f2), .int .i64 ((rd_T33 l0 x12_1).f3.f0), .int .i64 ((rd_T33 l0 x12_1).f3.f1), .int .i64 ((rd_T33 l0 x12_1).f4), .int .i64 ((rd_T33 l0 x12_1).f5), .int .i64 ((rd_T33 l0 x12_1).f6.f0), .int .i64 ((rd_T33 l0 x12_1).f6.f1), .int .i64 ((rd_T33 l0 x12_1).f7), .int .i64 0, .int .i64 0]) ?_ 10 _ rfl; (with_reducible repeat (first | refine blk_drewN ?_ _ | refine blk_drew ?_ | refine blk_alloc ?_ _)); refine blk_put (cs := #[.int .i64 ((rd_T33 l0 x12_1).f0), .int .i64 ((rd_T33 l0 x12_1).f1), .int .i64 ((rd_T33 l0 x12_1).f2), .int .i64 ((rd_T33 l0 x12_1).f3.f0), .int .i64 ((rd_T33 l0 x12_1).f3.f1), .int .i64 ((rd_T33 l0 x12_1).f4), .int .i64 ((rd_T33 l0 x12_1).f5), .int .i64 ((rd_T33 l0 x12_1).f6.f0), .int .i64 ((rd_T33 l0 x12_1).f6.f1), .int .i64 0, .int .i64 0, .int .i64 0]) ?_ 9 _ rfl; (with_reducible repeat (first | refine blk_drewN ?_ _ | refine blk_drew ?_ | refine blk_alloc ?_ _)); refine blk_put (cs := #[.int .i64 ((rd_T33 l0 x12_1).f0), .int .i64 ((rd_T33 l0 x12_1).f1), .int .i64 ((rd_T33 l0 x12_1).f2), .int .i64 ((rd_T33 l0 x12_1).f3.f0), .int .i64 ((rd_T33 l0 x12_1).f3.f1), .int .i64 ((rd_T33 l0 x12_1).f4), .int .i64 ((rd_T33 l0 x12_1).f5), .int .i64 ((rd_T33 l0 x12_1).f6.f0), .int .i64 0, .int .i64 0, .int .i64 0, .int .i64 0]) ?_ 8 _ rfl; (with_reducible repeat (first | refine blk_drewN ?_ _ | refine blk_drew ?_ | refine blk_alloc ?_ _)); refine blk_put (cs := #[.int .i64 ((rd_T33 l0 x12_1).f0), .int .i64 ((rd_T33 l0 x12_1).f1), .int .i64 ((rd_T33 l0 x12_1).f2), .int .i64 ((rd_T33 l0 x12_1).f3.f0), .int .i64 ((rd_T33 l0 x12_1).f3.f1), .int .i64 ((rd_T33 l0 x12_1).f4), .int .i64 ((rd_T33 l0 x12_1).f5), .int .i64 0, .int .i64 0, .int .i64 0, .int .i64 0, .int .i64 0]) ?_ 7 _ rfl; (with_reducible repeat (first | refine blk_drewN ?_ _ | refine blk_drew ?_ | refine blk_alloc ?_ _)); refine blk_put (cs := #[.int .i64 ((rd_T33 l0 x12_1).f0), .int .i64 ((rd_T33 l0 x12_1).f1), .int .i64 ((rd_T33 l0 x12_1).f2), .int .i64 ((rd_T33 l0 x12_1).f3.f0), .int .i64 ((rd_T33 l0 x12_1).f3.f1), .int .i64 ((rd_T33 l0 x12_1).f4), .int .i64 0, .int .i64 0, .int .i64 0, .int .i64 0, .int .i64 0, .int .i64 0]) ?_ 6 _ rfl; (with_reducible repeat (first | refine blk_drewN ?_ _ | refine blk_drew ?_ | refine blk_alloc ?_ _)); refine blk_put (cs := #[.int .i64 ((rd_T33 l0 x12_1).f0), .int .i64 ((rd_T33 l0 x12_1).f1), .int .i64 ((rd_T33 l0 x12_1).f2), .int .i64 ((rd_T33 l0 x12_1).f3.f0), .int .i64 ((rd_T33 l0 x12_1).f3.f1), .int .i64 0, .int .i64 0, .int .i64 0, .int .i64 0, .int .i64 0, .int .i64 0, .int .i64 0]) ?_ 5 _ rfl; (with_reducible repeat (first | refine blk_drewN ?_ _ | refine blk_drew ?_ | refine blk_alloc ?_ _)); refine blk_put (cs := #[.int .i64 ((rd_T33 l0 x12_1).f0), .int .i64 ((rd_T33 l0 x12_1).f1), .int .i64 ((rd_T33 l0 x12_1).f2), .int .i64 ((rd_T33 l0 x12_1).f3.f0), .int .i64 0, .int .i64 0, .int .i64 0, .int .i64 0, .int .i64 0, .int .i64 0, .int .i64 0, .int .i64 0]) ?_ 4 _ rfl; (with_reducible repeat (first | refine blk_drewN ?_ _ | refine blk_drew ?_ | refine blk_alloc ?_ _)); refine blk_put (cs := #[.int .i64 ((rd_T33 l0 x12_1).f0), .int .i64 ((rd_T33 l0 x12_1).f1), .int .i64 ((rd_T33 l0 x12_1).f2), .int .i64 0, .int .i64 0, .int .i64 0, .int .i64 0, .int .i64 0, .int .i64 0, .int .i64 0, .int .i64 0, .int .i64 0]) ?_ 3 _ rfl; (with_reducible repeat (first | refine blk_drewN ?_ _ | refine blk_drew ?_ | refine blk_alloc ?_ _)); refine blk_put (cs := #[.int .i64 ((rd_T33 l0 x12_1).f0), .int .i64 ((rd_T33 l0 x12_1).f1), .int .i64 0, .int .i64 0, .int .i64 0, .int .i64 0, .int .i64 0, .int .i64 0, .int .i64 0, .int .i64 0, .int .i64 0, .int .i64 0]) ?_ 2 _ rfl; (with_reducible repeat (first | refine blk_drewN ?_ _ | refine blk_drew ?_ | refine blk_alloc ?_ _)); refine blk_put (cs := #[.int .i64 ((rd_T33 l0 x12_1).f0), .int .i64 0, .int .i64 0, .int .i64 0, .int .i64 0, .int .i64 0, .int .i64 0, .int .i64 0, .int .i64 0, .int .i64 0, .int .i64 0, .int .i64 0]) ?_ 1 _ rfl; (with_reducible repeat (first | refine blk_drewN ?_ _ | refine blk_drew ?_ | refine blk_alloc ?_ _)); refine blk_put (cs := #[.int .i64 0, .int .i64 0, .int .i64 0, .int .i64 0, .int .i64 0, .int .i64 0, .int .i64 0, .int .i64 0, .int .i64 0, .int .i64 0, .int .i64 0, .int .i64 0]) ?_ 0 _ rfl; (with_reducible repeat (first | refine blk_drewN ?_ _ | refine blk_drew ?_ | refine blk_alloc ?_ _)); exact BK211.out))⟩; have n1_ : Aside0 (Below w.heap.size w w2003) := ⟨(by rw [hw]; exact wB)⟩; clear hw; clear BK211; clear HB; have BK211 := n0_; have HB := n1_; clear n0_ n1_; obtain ⟨⟨hcz2004_0, hcz2004_1, hcz2004_2, hcz2004_3, hcz2004_4, hcz2004_5, hcz2004_6, hcz2004_7, hcz2004_8, hcz2004_9, hcz2004_10, hcz2004_11⟩, hfz2004_0, hfz2004_1, hfz2004_2, hfz2004_3, hfz2004_4, hfz2004_5, hfz2004_6, hfz2004_7, hfz2004_8, hfz2004_9, hfz2004_10, hfz2004_11⟩ := cells12 BK211.out) | ((with_reducible refine gate_callee (f := 14) rfl ?_); refine goesL_ (some 17) rfl rfl Tryd.func14 (by kernel_rfl) rfl #[.agg #[.int .i64 ((rd_T33 l0 x12_1).f0), .int .i64 ((rd_T33 l0 x12_1).f1), .int .i64 ((rd_T33 l0 x12_1).f2), .int .i64 ((rd_T33 l0 x12_1).f3.f0), .int .i64 ((rd_T33 l0 x12_1).f3.f1), .int .i64 ((rd_T33 l0 x12_1).f4), .int .i64 ((rd_T33 l0 x12_1).f5), .int .i64 ((rd_T33 l0 x12_1).f6.f0), .int .i64 ((rd_T33 l0 x12_1).f6.f1), .int .i64 ((rd_T33 l0 x12_1).f7), .int .i64 ((rd_T33 l0 x12_1).f8), .int .i64 ((rd_T33 l0 x12_1).f9)]] rfl wT ?_; (with_reducible refine (impl_okRule.calls k1 ((rd_T33 l0 x12_1).f0) ((rd_T33 l0 x12_1).f1) ((rd_T33 l0 x12_1).f2) ((rd_T33 l0 x12_1).f3.f0) ((rd_T33 l0 x12_1).f3.f1) ((rd_T33 l0 x12_1).f4) ((rd_T33 l0 x12_1).f5) ((rd_T33 l0 x12_1).f6.f0) ((rd_T33 l0 x12_1).f6.f1) ((rd_T33 l0 x12_1).f7) ((rd_T33 l0 x12_1).f8) ((rd_T33 l0 x12_1).f9) true _ A1004.out).mono ?_); rintro e w2005 ⟨rfl, hb⟩; refine ⟨_, rfl, ?_⟩; have n0_ := Aside0.mk (blk_below (Bh BK211) hb); have n1_ := Aside0.mk (below_step wB hb); clear BK211; clear HB; have BK211 := n0_; have HB := n1_; clear n0_ n1_; (try clear hb); (try clear hb2); (try clear hk); (try clear hi); obtain ⟨⟨hcz2006_0, hcz2006_1, hcz2006_2, hcz2006_3, hcz2006_4, hcz2006_5, hcz2006_6, hcz2006_7, hcz2006_8, hcz2006_9, hcz2006_10, hcz2006_11⟩, hfz2006_0, hfz2006_1, hfz2006_2, hfz2006_3, hfz2006_4, hfz2006_5, hfz2006_6, hfz2006_7, hfz2006_8, hfz2006_9, hfz2006_10, hfz2006_11⟩ := cells12 BK211.out) | ((with_reducible refine gate_callee (f := 15) rfl ?_); refine goesL_ (some 21) rfl rfl Tryd.func15 (by kernel_rfl) rfl #[.agg #[.int .i64 ((rd_T33 l0 x12_1).f0), .int .i64 ((rd_T33 l0 x12_1).f1), .int .i64 ((rd_T33 l0 x12_1).f2), .int .i64 ((rd_T33 l0 x12_1).f3.f0), .int .i64 ((rd_T33 l0 x12_1).f3.f1), .int .i64 ((rd_T33 l0 x12_1).f4), .int .i64 ((rd_T33 l0 x12_1).f5), .int .i64 ((rd_T33 l0 x12_1).f6.f0), .int .i64 ((rd_T33 l0 x12_1).f6.f1), .int .i64 ((rd_T33 l0 x12_1).f7), .int .i64 ((rd_T33 l0 x12_1).f8), .int .i64 ((rd_T33 l0 x12_1).f9)]] rfl wT ?_; (with_reducible refine (impl_showRule.calls k1 ((rd_T33 l0 x12_1).f0) ((rd_T33 l0 x12_1).f1) ((rd_T33 l0 x12_1).f2) ((rd_T33 l0 x12_1).f3.f0) ((rd_T33 l0 x12_1).f3.f1) ((rd_T33 l0 x12_1).f4) ((rd_T33 l0 x12_1).f5) ((rd_T33 l0 x12_1).f6.f0) ((rd_T33 l0 x12_1).f6.f1) ((rd_T33 l0 x12_1).f7) ((rd_T33 l0 x12_1).f8) ((rd_T33 l0 x12_1).f9) t213 _ ?side1 A1006.out).mono ?_); (case side1 => repeat (first | exact (Door.c_below HD.out HB.out) | (with_reducible refine Door.c_alloc ?_ _) | (with_reducible refine Door.c_drewN ?_ _) | (with_reducible refine Door.c_drew ?_))); rintro e w2007 ⟨rfl, hb⟩; refine ⟨_, rfl, ?_⟩; have n0_ := Aside0.mk (blk_below (Bh BK211) hb); have n1_ := Aside0.mk (below_step wB hb); clear BK211; clear HB; have BK211 := n0_; have HB := n1_; clear n0_ n1_; (try clear hb); (try clear hb2); (try clear hk); (try clear hi)))
 go_roundg k1
 case measure => have := HK1.out; omega
 case rel => exact ⟨(x4_1 ++ (t213 ++ (⟨#[10]⟩ : ByteArray))), (wrap64 (x12_1 + 1)), (by first | rfl | (simp; done) | (simp [*]; done)), (by first | rfl | (simp; done) | (simp [*]; done)), H', ⟨by have := HK1.out; omega⟩, ⟨wB⟩⟩
 }
 {
 go_wp2_with (first | ((with_reducible refine gate_dst (N := 6) rfl ?_); refine box_event ?hg (N := 6) ?hd (cs := #[.int .i64 0, .int .i64 0, .int .i64 0, .int .i64 0, .int .i64 0, .int .i64 0, .int .i64 0, .int .i64 0, .int .i64 0, .int .i64 0, .int .i64 0, .int .i64 0]) (t := 33) ?hr ?_; (case hd => rfl); (case hg => rfl); (case hr => first | (go_simp; done) | (go_simp; rfl)); intro gb211 hg w2001 hbox hb; have n0_ := Aside0.mk (below_step wB hb); have n1_ := Aside0.mk (hbox); have n2_ := Aside0.mk ((by rw [hg]; exact (below_size wB) : w.heap.size ≤ gb211)); have n3_ := Aside0.mk ((by rw [hg]; exact (below_size wB) : w.heap.size ≤ gb211)); clear HB; have HB := n0_; have BK211 := n1_; have GW211 := n2_; have GE211 := n3_; clear n0_ n1_ n2_ n3_; clear hb hbox hg; obtain ⟨⟨hcz2002_0, hcz2002_1, hcz2002_2, hcz2002_3, hcz2002_4, hcz2002_5, hcz2002_6, hcz2002_7, hcz2002_8, hcz2002_9, hcz2002_10, hcz2002_11⟩, hfz2002_0, hfz2002_1, hfz2002_2, hfz2002_3, hfz2002_4, hfz2002_5, hfz2002_6, hfz2002_7, hfz2002_8, hfz2002_9, hfz2002_10, hfz2002_11⟩ := cells12 BK211.out) | ((with_reducible refine gate_store (t := 33) (p := 6) rfl ?_); refine store_event (t := 33) (p := 6) (v := ?_) (w1 := ((((((((((((w2001.setCell ⟨gb211, 0, none⟩ (.int .i64 ((rd_T33 l0 x12_1).f0))).setCell ⟨gb211, 1, none⟩ (.int .i64 ((rd_T33 l0 x12_1).f1))).setCell ⟨gb211, 2, none⟩ (.int .i64 ((rd_T33 l0 x12_1).f2))).setCell ⟨gb211, 3, none⟩ (.int .i64 ((rd_T33 l0 x12_1).f3.f0))).setCell ⟨gb211, 4, none⟩ (.int .i64 ((rd_T33 l0 x12_1).f3.f1))).setCell ⟨gb211, 5, none⟩ (.int .i64 ((rd_T33 l0 x12_1).f4))).setCell ⟨gb211, 6, none⟩ (.int .i64 ((rd_T33 l0 x12_1).f5))).setCell ⟨gb211, 7, none⟩ (.int .i64 ((rd_T33 l0 x12_1).f6.f0))).setCell ⟨gb211, 8, none⟩ (.int .i64 ((rd_T33 l0 x12_1).f6.f1))).setCell ⟨gb211, 9, none⟩ (.int .i64 ((rd_T33 l0 x12_1).f7))).setCell ⟨gb211, 10, none⟩ (.int .i64 ((rd_T33 l0 x12_1).f8))).setCell ⟨gb211, 11, none⟩ (.int .i64 ((rd_T33 l0 x12_1).f9)))) ?hg ?ho ?hn ?hr ?_; (case ho => rfl); (case hg => rfl); (case hn => rfl); (case hr => first | (go_simp; done) | (go_simp; rfl)); intro w2003 hw; have n0_ : Aside0 (w2003.heap[gb211]? = some (.cells #[.int .i64 ((rd_T33 l0 x12_1).f0), .int .i64 ((rd_T33 l0 x12_1).f1), .int .i64 ((rd_T33 l0 x12_1).f2), .int .i64 ((rd_T33 l0 x12_1).f3.f0), .int .i64 ((rd_T33 l0 x12_1).f3.f1), .int .i64 ((rd_T33 l0 x12_1).f4), .int .i64 ((rd_T33 l0 x12_1).f5), .int .i64 ((rd_T33 l0 x12_1).f6.f0), .int .i64 ((rd_T33 l0 x12_1).f6.f1), .int .i64 ((rd_T33 l0 x12_1).f7), .int .i64 ((rd_T33 l0 x12_1).f8), .int .i64 ((rd_T33 l0 x12_1).f9)] 33 (0, 0))) := ⟨(by rw [hw]; exact (by (with_reducible repeat (first | refine blk_drewN ?_ _ | refine blk_drew ?_ | refine blk_alloc ?_ _)); refine blk_put (cs := #[.int .i64 ((rd_T33 l0 x12_1).f0), .int .i64 ((rd_T33 l0 x12_1).f1), .int .i64 ((rd_T33 l0 x12_1).f2), .int .i64 ((rd_T33 l0 x12_1).f3.f0), .int .i64 ((rd_T33 l0 x12_1).f3.f1), .int .i64 ((rd_T33 l0 x12_1).f4), .int .i64 ((rd_T33 l0 x12_1).f5), .int .i64 ((rd_T33 l0 x12_1).f6.f0), .int .i64 ((rd_T33 l0 x12_1).f6.f1), .int .i64 ((rd_T33 l0 x12_1).f7), .int .i64 ((rd_T33 l0 x12_1).f8), .int .i64 0]) ?_ 11 _ rfl; (with_reducible repeat (first | refine blk_drewN ?_ _ | refine blk_drew ?_ | refine blk_alloc ?_ _)); refine blk_put (cs := #[.int .i64 ((rd_T33 l0 x12_1).f0), .int .i64 ((rd_T33 l0 x12_1).f1), .int .i64 ((rd_T33 l0 x12_1).f2), .int .i64 ((rd_T33 l0 x12_1).f3.f0), .int .i64 ((rd_T33 l0 x12_1).f3.f1), .int .i64 ((rd_T33 l0 x12_1).f4), .int .i64 ((rd_T33 l0 x12_1).f5), .int .i64 ((rd_T33 l0 x12_1).f6.f0), .int .i64 ((rd_T33 l0 x12_1).f6.f1), .int .i64 ((rd_T33 l0 x12_1).f7), .int .i64 0, .int .i64 0]) ?_ 10 _ rfl; (with_reducible repeat (first | refine blk_drewN ?_ _ | refine blk_drew ?_ | refine blk_alloc ?_ _)); refine blk_put (cs := #[.int .i64 ((rd_T33 l0 x12_1).f0), .int .i64 ((rd_T33 l0 x12_1).f1), .int .i64 ((rd_T33 l0 x12_1).f2), .int .i64 ((rd_T33 l0 x12_1).f3.f0), .int .i64 ((rd_T33 l0 x12_1).f3.f1), .int .i64 ((rd_T33 l0 x12_1).f4), .int .i64 ((rd_T33 l0 x12_1).f5), .int .i64 ((rd_T33 l0 x12_1).f6.f0), .int .i64 ((rd_T33 l0 x12_1).f6.f1), .int .i64 0, .int .i64 0, .int .i64 0]) ?_ 9 _ rfl; (with_reducible repeat (first | refine blk_drewN ?_ _ | refine blk_drew ?_ | refine blk_alloc ?_ _)); refine blk_put (cs := #[.int .i64 ((rd_T33 l0 x12_1).f0), .int .i64 ((rd_T33 l0 x12_1).f1), .int .i64 ((rd_T33 l0 x12_1).f2), .int .i64 ((rd_T33 l0 x12_1).f3.f0), .int .i64 ((rd_T33 l0 x12_1).f3.f1), .int .i64 ((rd_T33 l0 x12_1).f4), .int .i64 ((rd_T33 l0 x12_1).f5), .int .i64 ((rd_T33 l0 x12_1).f6.f0), .int .i64 0, .int .i64 0, .int .i64 0, .int .i64 0]) ?_ 8 _ rfl; (with_reducible repeat (first | refine blk_drewN ?_ _ | refine blk_drew ?_ | refine blk_alloc ?_ _)); refine blk_put (cs := #[.int .i64 ((rd_T33 l0 x12_1).f0), .int .i64 ((rd_T33 l0 x12_1).f1), .int .i64 ((rd_T33 l0 x12_1).f2), .int .i64 ((rd_T33 l0 x12_1).f3.f0), .int .i64 ((rd_T33 l0 x12_1).f3.f1), .int .i64 ((rd_T33 l0 x12_1).f4), .int .i64 ((rd_T33 l0 x12_1).f5), .int .i64 0, .int .i64 0, .int .i64 0, .int .i64 0, .int .i64 0]) ?_ 7 _ rfl; (with_reducible repeat (first | refine blk_drewN ?_ _ | refine blk_drew ?_ | refine blk_alloc ?_ _)); refine blk_put (cs := #[.int .i64 ((rd_T33 l0 x12_1).f0), .int .i64 ((rd_T33 l0 x12_1).f1), .int .i64 ((rd_T33 l0 x12_1).f2), .int .i64 ((rd_T33 l0 x12_1).f3.f0), .int .i64 ((rd_T33 l0 x12_1).f3.f1), .int .i64 ((rd_T33 l0 x12_1).f4), .int .i64 0, .int .i64 0, .int .i64 0, .int .i64 0, .int .i64 0, .int .i64 0]) ?_ 6 _ rfl; (with_reducible repeat (first | refine blk_drewN ?_ _ | refine blk_drew ?_ | refine blk_alloc ?_ _)); refine blk_put (cs := #[.int .i64 ((rd_T33 l0 x12_1).f0), .int .i64 ((rd_T33 l0 x12_1).f1), .int .i64 ((rd_T33 l0 x12_1).f2), .int .i64 ((rd_T33 l0 x12_1).f3.f0), .int .i64 ((rd_T33 l0 x12_1).f3.f1), .int .i64 0, .int .i64 0, .int .i64 0, .int .i64 0, .int .i64 0, .int .i64 0, .int .i64 0]) ?_ 5 _ rfl; (with_reducible repeat (first | refine blk_drewN ?_ _ | refine blk_drew ?_ | refine blk_alloc ?_ _)); refine blk_put (cs := #[.int .i64 ((rd_T33 l0 x12_1).f0), .int .i64 ((rd_T33 l0 x12_1).f1), .int .i64 ((rd_T33 l0 x12_1).f2), .int .i64 ((rd_T33 l0 x12_1).f3.f0), .int .i64 0, .int .i64 0, .int .i64 0, .int .i64 0, .int .i64 0, .int .i64 0, .int .i64 0, .int .i64 0]) ?_ 4 _ rfl; (with_reducible repeat (first | refine blk_drewN ?_ _ | refine blk_drew ?_ | refine blk_alloc ?_ _)); refine blk_put (cs := #[.int .i64 ((rd_T33 l0 x12_1).f0), .int .i64 ((rd_T33 l0 x12_1).f1), .int .i64 ((rd_T33 l0 x12_1).f2), .int .i64 0, .int .i64 0, .int .i64 0, .int .i64 0, .int .i64 0, .int .i64 0, .int .i64 0, .int .i64 0, .int .i64 0]) ?_ 3 _ rfl; (with_reducible repeat (first | refine blk_drewN ?_ _ | refine blk_drew ?_ | refine blk_alloc ?_ _)); refine blk_put (cs := #[.int .i64 ((rd_T33 l0 x12_1).f0), .int .i64 ((rd_T33 l0 x12_1).f1), .int .i64 0, .int .i64 0, .int .i64 0, .int .i64 0, .int .i64 0, .int .i64 0, .int .i64 0, .int .i64 0, .int .i64 0, .int .i64 0]) ?_ 2 _ rfl; (with_reducible repeat (first | refine blk_drewN ?_ _ | refine blk_drew ?_ | refine blk_alloc ?_ _)); refine blk_put (cs := #[.int .i64 ((rd_T33 l0 x12_1).f0), .int .i64 0, .int .i64 0, .int .i64 0, .int .i64 0, .int .i64 0, .int .i64 0, .int .i64 0, .int .i64 0, .int .i64 0, .int .i64 0, .int .i64 0]) ?_ 1 _ rfl; (with_reducible repeat (first | refine blk_drewN ?_ _ | refine blk_drew ?_ | refine blk_alloc ?_ _)); refine blk_put (cs := #[.int .i64 0, .int .i64 0, .int .i64 0, .int .i64 0, .int .i64 0, .int .i64 0, .int .i64 0, .int .i64 0, .int .i64 0, .int .i64 0, .int .i64 0, .int .i64 0]) ?_ 0 _ rfl; (with_reducible repeat (first | refine blk_drewN ?_ _ | refine blk_drew ?_ | refine blk_alloc ?_ _)); exact BK211.out))⟩; have n1_ : Aside0 (Below w.heap.size w w2003) := ⟨(by rw [hw]; exact wB)⟩; clear hw; clear BK211; clear HB; have BK211 := n0_; have HB := n1_; clear n0_ n1_; obtain ⟨⟨hcz2004_0, hcz2004_1, hcz2004_2, hcz2004_3, hcz2004_4, hcz2004_5, hcz2004_6, hcz2004_7, hcz2004_8, hcz2004_9, hcz2004_10, hcz2004_11⟩, hfz2004_0, hfz2004_1, hfz2004_2, hfz2004_3, hfz2004_4, hfz2004_5, hfz2004_6, hfz2004_7, hfz2004_8, hfz2004_9, hfz2004_10, hfz2004_11⟩ := cells12 BK211.out) | ((with_reducible refine gate_callee (f := 14) rfl ?_); refine goesL_ (some 17) rfl rfl Tryd.func14 (by kernel_rfl) rfl #[.agg #[.int .i64 ((rd_T33 l0 x12_1).f0), .int .i64 ((rd_T33 l0 x12_1).f1), .int .i64 ((rd_T33 l0 x12_1).f2), .int .i64 ((rd_T33 l0 x12_1).f3.f0), .int .i64 ((rd_T33 l0 x12_1).f3.f1), .int .i64 ((rd_T33 l0 x12_1).f4), .int .i64 ((rd_T33 l0 x12_1).f5), .int .i64 ((rd_T33 l0 x12_1).f6.f0), .int .i64 ((rd_T33 l0 x12_1).f6.f1), .int .i64 ((rd_T33 l0 x12_1).f7), .int .i64 ((rd_T33 l0 x12_1).f8), .int .i64 ((rd_T33 l0 x12_1).f9)]] rfl wT ?_; (with_reducible refine (impl_okRule.calls k1 ((rd_T33 l0 x12_1).f0) ((rd_T33 l0 x12_1).f1) ((rd_T33 l0 x12_1).f2) ((rd_T33 l0 x12_1).f3.f0) ((rd_T33 l0 x12_1).f3.f1) ((rd_T33 l0 x12_1).f4) ((rd_T33 l0 x12_1).f5) ((rd_T33 l0 x12_1).f6.f0) ((rd_T33 l0 x12_1).f6.f1) ((rd_T33 l0 x12_1).f7) ((rd_T33 l0 x12_1).f8) ((rd_T33 l0 x12_1).f9) false _ A1004.out).mono ?_); rintro e w2005 ⟨rfl, hb⟩; refine ⟨_, rfl, ?_⟩; have n0_ := Aside0.mk (blk_below (Bh BK211) hb); have n1_ := Aside0.mk (below_step wB hb); clear BK211; clear HB; have BK211 := n0_; have HB := n1_; clear n0_ n1_; (try clear hb); (try clear hb2); (try clear hk); (try clear hi)))
 go_ret2
 exact ⟨by first | rfl | (simp [errW_none, errW_some] <;> rfl) | (simp [*, errW_none, errW_some] <;> rfl), wB⟩
 }
 {
 go_wp2
 go_ret2
 exact ⟨by first | rfl | (simp [errW_none, errW_some] <;> rfl) | (simp [*, errW_none, errW_some] <;> rfl), wB⟩
 }
 }
 )
 }

/-! ### laws_eqPrefix: function 28 -/
def laws_eqPrefix.f (a0_0 : Int) (a0_1 : Int) (a1_0 : Int) (a1_1 : Int) : Option (Bool) := if a0_0 = a1_0 then (if a0_1 = a1_1 then (some true) else (some false)) else (some false)
set_option maxHeartbeats 60000000 in
set_option maxRecDepth 100000 in
theorem laws_eqPrefix.calls (a0_0 : Int) (a0_1 : Int) (a1_0 : Int) (a1_1 : Int) (r : Bool) (w : World) (h : laws_eqPrefix.f a0_0 a0_1 a1_0 a1_1 = some r) :
    Calls Tryd.prog 28 #[.agg #[.int .i64 a0_0, .int .i64 a0_1], .agg #[.int .i64 a1_0, .int .i64 a1_1]] w fun e w' => e = .returned (.bool r) ∧ Below w.heap.size w w' := by
  have hu31 := Tryd.underlying31
  have HB := Aside0.mk (Below.refl w.heap.size w)
  have H : (if a0_0 = a1_0 then (if a0_1 = a1_1 then (some true) else (some false)) else (some false)) = some r := h
  clear h
  by_cases c3 : a0_0 = a1_0
  · rw [if_pos c3] at H
    have c3b0 : (a0_0 == a1_0) = true := beq_iff_eq.mpr c3
    have c3b1 : (a0_0 != a1_0) = false := bne_eq_false_iff_eq.mpr c3
    clear c3
    by_cases c4 : a0_1 = a1_1
    · rw [if_pos c4] at H
      have c4b0 : (a0_1 == a1_1) = true := beq_iff_eq.mpr c4
      have c4b1 : (a0_1 != a1_1) = false := bne_eq_false_iff_eq.mpr c4
      clear c4
      obtain rfl := Option.some.inj H
      go_enter Tryd.func28, Tryd.ntmps28
      go_wp2_with (first | ((with_reducible refine gate_dst (N := 2) rfl ?_); refine box_event ?hg (N := 2) ?hd (cs := #[.int .i64 a0_0, .int .i64 a0_1]) (t := 31) ?hr ?_; (case hd => rfl); (case hg => rfl); (case hr => first | (go_simp; done) | (go_simp; rfl)); intro gb214 hg w1001 hbox hb; have n0_ := Aside0.mk (below_step wB hb); have n1_ := Aside0.mk (hbox); have n2_ := Aside0.mk ((by rw [hg]; exact (below_size wB) : w.heap.size ≤ gb214)); have n3_ := Aside0.mk ((by rw [hg]; exact (below_size wB) : w.heap.size ≤ gb214)); clear HB; have HB := n0_; have BK214 := n1_; have GW214 := n2_; have GE214 := n3_; clear n0_ n1_ n2_ n3_; clear hb hbox hg) | ((with_reducible refine gate_dst (N := 3) rfl ?_); refine box_event ?hg (N := 3) ?hd (cs := #[.int .i64 a1_0, .int .i64 a1_1]) (t := 31) ?hr ?_; (case hd => rfl); (case hg => rfl); (case hr => first | (go_simp; done) | (go_simp; rfl)); intro gb215 hg w1002 hbox hb; have n0_ := Aside0.mk (blk_below (Bh BK214) hb); have n1_ := Aside0.mk (below_step wB hb); have n2_ := Aside0.mk (hbox); have n3_ := Aside0.mk ((by rw [hg]; exact (below_size wB) : w.heap.size ≤ gb215)); have n4_ := Aside0.mk ((by rw [hg]; exact (below_size wB) : w.heap.size ≤ gb215)); have n5_ := Aside0.mk ((by rw [hg]; exact Nat.ne_of_lt (blk_lt (Bh BK214)) : gb214 ≠ gb215)); have n6_ := Aside0.mk ((by rw [hg]; exact Nat.ne_of_gt (blk_lt (Bh BK214)) : gb215 ≠ gb214)); clear BK214; clear HB; have BK214 := n0_; have HB := n1_; have BK215 := n2_; have GW215 := n3_; have GE215 := n4_; have NB214_215 := n5_; have NB215_214 := n6_; clear n0_ n1_ n2_ n3_ n4_ n5_ n6_; clear hb hbox hg; have hnb1003 := NB214_215.out; have hnc1003 := NB215_214.out; obtain ⟨⟨hcz1004_0, hcz1004_1⟩, hfz1004_0, hfz1004_1⟩ := cells2 BK214.out; obtain ⟨⟨hcz1005_0, hcz1005_1⟩, hfz1005_0, hfz1005_1⟩ := cells2 BK215.out))
      go_ret
      exact ⟨by first | rfl | (simp [errW_none, errW_some] <;> rfl) | (simp [*, errW_none, errW_some] <;> rfl), wB⟩
    · rw [if_neg c4] at H
      have c4b0 : (a0_1 == a1_1) = false := beq_eq_false_iff_ne.mpr c4
      have c4b1 : (a0_1 != a1_1) = true := bne_iff_ne.mpr c4
      obtain rfl := Option.some.inj H
      go_enter Tryd.func28, Tryd.ntmps28
      go_wp2_with (first | ((with_reducible refine gate_dst (N := 2) rfl ?_); refine box_event ?hg (N := 2) ?hd (cs := #[.int .i64 a0_0, .int .i64 a0_1]) (t := 31) ?hr ?_; (case hd => rfl); (case hg => rfl); (case hr => first | (go_simp; done) | (go_simp; rfl)); intro gb214 hg w1001 hbox hb; have n0_ := Aside0.mk (below_step wB hb); have n1_ := Aside0.mk (hbox); have n2_ := Aside0.mk ((by rw [hg]; exact (below_size wB) : w.heap.size ≤ gb214)); have n3_ := Aside0.mk ((by rw [hg]; exact (below_size wB) : w.heap.size ≤ gb214)); clear HB; have HB := n0_; have BK214 := n1_; have GW214 := n2_; have GE214 := n3_; clear n0_ n1_ n2_ n3_; clear hb hbox hg) | ((with_reducible refine gate_dst (N := 3) rfl ?_); refine box_event ?hg (N := 3) ?hd (cs := #[.int .i64 a1_0, .int .i64 a1_1]) (t := 31) ?hr ?_; (case hd => rfl); (case hg => rfl); (case hr => first | (go_simp; done) | (go_simp; rfl)); intro gb215 hg w1002 hbox hb; have n0_ := Aside0.mk (blk_below (Bh BK214) hb); have n1_ := Aside0.mk (below_step wB hb); have n2_ := Aside0.mk (hbox); have n3_ := Aside0.mk ((by rw [hg]; exact (below_size wB) : w.heap.size ≤ gb215)); have n4_ := Aside0.mk ((by rw [hg]; exact (below_size wB) : w.heap.size ≤ gb215)); have n5_ := Aside0.mk ((by rw [hg]; exact Nat.ne_of_lt (blk_lt (Bh BK214)) : gb214 ≠ gb215)); have n6_ := Aside0.mk ((by rw [hg]; exact Nat.ne_of_gt (blk_lt (Bh BK214)) : gb215 ≠ gb214)); clear BK214; clear HB; have BK214 := n0_; have HB := n1_; have BK215 := n2_; have GW215 := n3_; have GE215 := n4_; have NB214_215 := n5_; have NB215_214 := n6_; clear n0_ n1_ n2_ n3_ n4_ n5_ n6_; clear hb hbox hg; have hnb1003 := NB214_215.out; have hnc1003 := NB215_214.out; obtain ⟨⟨hcz1004_0, hcz1004_1⟩, hfz1004_0, hfz1004_1⟩ := cells2 BK214.out; obtain ⟨⟨hcz1005_0, hcz1005_1⟩, hfz1005_0, hfz1005_1⟩ := cells2 BK215.out))
      go_ret
      exact ⟨by first | rfl | (simp [errW_none, errW_some] <;> rfl) | (simp [*, errW_none, errW_some] <;> rfl), wB⟩
  · rw [if_neg c3] at H
    have c3b0 : (a0_0 == a1_0) = false := beq_eq_false_iff_ne.mpr c3
    have c3b1 : (a0_0 != a1_0) = true := bne_iff_ne.mpr c3
    obtain rfl := Option.some.inj H
    go_enter Tryd.func28, Tryd.ntmps28
    go_wp2_with (first | ((with_reducible refine gate_dst (N := 2) rfl ?_); refine box_event ?hg (N := 2) ?hd (cs := #[.int .i64 a0_0, .int .i64 a0_1]) (t := 31) ?hr ?_; (case hd => rfl); (case hg => rfl); (case hr => first | (go_simp; done) | (go_simp; rfl)); intro gb214 hg w1001 hbox hb; have n0_ := Aside0.mk (below_step wB hb); have n1_ := Aside0.mk (hbox); have n2_ := Aside0.mk ((by rw [hg]; exact (below_size wB) : w.heap.size ≤ gb214)); have n3_ := Aside0.mk ((by rw [hg]; exact (below_size wB) : w.heap.size ≤ gb214)); clear HB; have HB := n0_; have BK214 := n1_; have GW214 := n2_; have GE214 := n3_; clear n0_ n1_ n2_ n3_; clear hb hbox hg) | ((with_reducible refine gate_dst (N := 3) rfl ?_); refine box_event ?hg (N := 3) ?hd (cs := #[.int .i64 a1_0, .int .i64 a1_1]) (t := 31) ?hr ?_; (case hd => rfl); (case hg => rfl); (case hr => first | (go_simp; done) | (go_simp; rfl)); intro gb215 hg w1002 hbox hb; have n0_ := Aside0.mk (blk_below (Bh BK214) hb); have n1_ := Aside0.mk (below_step wB hb); have n2_ := Aside0.mk (hbox); have n3_ := Aside0.mk ((by rw [hg]; exact (below_size wB) : w.heap.size ≤ gb215)); have n4_ := Aside0.mk ((by rw [hg]; exact (below_size wB) : w.heap.size ≤ gb215)); have n5_ := Aside0.mk ((by rw [hg]; exact Nat.ne_of_lt (blk_lt (Bh BK214)) : gb214 ≠ gb215)); have n6_ := Aside0.mk ((by rw [hg]; exact Nat.ne_of_gt (blk_lt (Bh BK214)) : gb215 ≠ gb214)); clear BK214; clear HB; have BK214 := n0_; have HB := n1_; have BK215 := n2_; have GW215 := n3_; have GE215 := n4_; have NB214_215 := n5_; have NB215_214 := n6_; clear n0_ n1_ n2_ n3_ n4_ n5_ n6_; clear hb hbox hg; have hnb1003 := NB214_215.out; have hnc1003 := NB215_214.out; obtain ⟨⟨hcz1004_0, hcz1004_1⟩, hfz1004_0, hfz1004_1⟩ := cells2 BK214.out; obtain ⟨⟨hcz1005_0, hcz1005_1⟩, hfz1005_0, hfz1005_1⟩ := cells2 BK215.out))
    go_ret
    exact ⟨by first | rfl | (simp [errW_none, errW_some] <;> rfl) | (simp [*, errW_none, errW_some] <;> rfl), wB⟩

/-! ### laws_eqRule: function 16 -/
def laws_eqRule.f (a0_0 : Int) (a0_1 : Int) (a0_2 : Int) (a0_3 : Int) (a0_4 : Int) (a0_5 : Int) (a0_6 : Int) (a0_7 : Int) (a0_8 : Int) (a0_9 : Int) (a0_10 : Int) (a0_11 : Int) (a1_0 : Int) (a1_1 : Int) (a1_2 : Int) (a1_3 : Int) (a1_4 : Int) (a1_5 : Int) (a1_6 : Int) (a1_7 : Int) (a1_8 : Int) (a1_9 : Int) (a1_10 : Int) (a1_11 : Int) : Option (Bool) := if a0_0 = a1_0 then (if a0_1 = a1_1 then (if a0_2 = a1_2 then ((laws_eqPrefix.f a0_3 a0_4 a1_3 a1_4).bind fun t218 => (if t218 = true then (if a0_5 = a1_5 then (if a0_6 = a1_6 then ((laws_eqPrefix.f a0_7 a0_8 a1_7 a1_8).bind fun t219 => (if t219 = true then (if a0_9 = a1_9 then (if a0_10 = a1_10 then (if a0_11 = a1_11 then (some true) else (some false)) else (some false)) else (some false)) else (some false))) else (some false)) else (some false)) else (some false))) else (some false)) else (some false)) else (some false)
set_option maxHeartbeats 60000000 in
set_option maxRecDepth 100000 in
theorem laws_eqRule.calls (a0_0 : Int) (a0_1 : Int) (a0_2 : Int) (a0_3 : Int) (a0_4 : Int) (a0_5 : Int) (a0_6 : Int) (a0_7 : Int) (a0_8 : Int) (a0_9 : Int) (a0_10 : Int) (a0_11 : Int) (a1_0 : Int) (a1_1 : Int) (a1_2 : Int) (a1_3 : Int) (a1_4 : Int) (a1_5 : Int) (a1_6 : Int) (a1_7 : Int) (a1_8 : Int) (a1_9 : Int) (a1_10 : Int) (a1_11 : Int) (r : Bool) (w : World) (h : laws_eqRule.f a0_0 a0_1 a0_2 a0_3 a0_4 a0_5 a0_6 a0_7 a0_8 a0_9 a0_10 a0_11 a1_0 a1_1 a1_2 a1_3 a1_4 a1_5 a1_6 a1_7 a1_8 a1_9 a1_10 a1_11 = some r) :
 Calls Tryd.prog 16 #[.agg #[.int .i64 a0_0, .int .i64 a0_1, .int .i64 a0_2, .int .i64 a0_3, .int .i64 a0_4, .int .i64 a0_5, .int .i64 a0_6, .int .i64 a0_7, .int .i64 a0_8, .int .i64 a0_9, .int .i64 a0_10, .int .i64 a0_11], .agg #[.int .i64 a1_0, .int .i64 a1_1, .int .i64 a1_2, .int .i64 a1_3, .int .i64 a1_4, .int .i64 a1_5, .int .i64 a1_6, .int .i64 a1_7, .int .i64 a1_8, .int .i64 a1_9, .int .i64 a1_10, .int .i64 a1_11]] w fun e w' => e = .returned (.bool r) ∧ Below w.heap.size w w' := by
 have hu33 := Tryd.underlying33
 have hu31 := Tryd.underlying31
 have HB := Aside0.mk (Below.refl w.heap.size w)
 have H : (if a0_0 = a1_0 then (if a0_1 = a1_1 then (if a0_2 = a1_2 then ((laws_eqPrefix.f a0_3 a0_4 a1_3 a1_4).bind fun t218 => (if t218 = true then (if a0_5 = a1_5 then (if a0_6 = a1_6 then ((laws_eqPrefix.f a0_7 a0_8 a1_7 a1_8).bind fun t219 => (if t219 = true then (if a0_9 = a1_9 then (if a0_10 = a1_10 then (if a0_11 = a1_11 then (some true) else (some false)) else (some false)) else (some false)) else (some false))) else (some false)) else (some false)) else (some false))) else (some false)) else (some false)) else (some false)) = some r := h
 clear h
 by_cases c3 : a0_0 = a1_0
 rw [if_pos c3] at H
 have c3b0 : (a0_0 == a1_0) = true := beq_iff_eq.mpr c3
 have c3b1 : (a0_0 != a1_0) = false := bne_eq_false_iff_eq.mpr c3
 clear c3
 by_cases c4 : a0_1 = a1_1
 rw [if_pos c4] at H
 have c4b0 : (a0_1 == a1_1) = true := beq_iff_eq.mpr c4
 have c4b1 : (a0_1 != a1_1) = false := bne_eq_false_iff_eq.mpr c4
 clear c4
 by_cases c5 : a0_2 = a1_2
 rw [if_pos c5] at H
 have c5b0 : (a0_2 == a1_2) = true := beq_iff_eq.mpr c5
 have c5b1 : (a0_2 != a1_2) = false := bne_eq_false_iff_eq.mpr c5
 clear c5
 replace H := Option.bind_eq_some_iff.mp H
 obtain ⟨t218, A60, H⟩ := H
 replace H : (if t218 = true then (if a0_5 = a1_5 then (if a0_6 = a1_6 then ((laws_eqPrefix.f a0_7 a0_8 a1_7 a1_8).bind fun t219 => (if t219 = true then (if a0_9 = a1_9 then (if a0_10 = a1_10 then (if a0_11 = a1_11 then (some true) else (some false)) else (some false)) else (some false)) else (some false))) else (some false)) else (some false)) else (some false)) = some r := H
 have A6 := Aside0.mk A60
 clear A60
 by_cases c7 : t218 = true
 subst c7
 have H1 : (if a0_5 = a1_5 then (if a0_6 = a1_6 then ((laws_eqPrefix.f a0_7 a0_8 a1_7 a1_8).bind fun t219 => (if t219 = true then (if a0_9 = a1_9 then (if a0_10 = a1_10 then (if a0_11 = a1_11 then (some true) else (some false)) else (some false)) else (some false)) else (some false))) else (some false)) else (some false)) = some r := by rw [if_pos rfl] at H; exact H
 clear H
 have H := H1
 clear H1
 by_cases c8 : a0_5 = a1_5
 rw [if_pos c8] at H
 have c8b0 : (a0_5 == a1_5) = true := beq_iff_eq.mpr c8
 have c8b1 : (a0_5 != a1_5) = false := bne_eq_false_iff_eq.mpr c8
 clear c8
 by_cases c9 : a0_6 = a1_6
 rw [if_pos c9] at H
 have c9b0 : (a0_6 == a1_6) = true := beq_iff_eq.mpr c9
 have c9b1 : (a0_6 != a1_6) = false := bne_eq_false_iff_eq.mpr c9
 clear c9
 replace H := Option.bind_eq_some_iff.mp H
 obtain ⟨t219, A100, H⟩ := H
 replace H : (if t219 = true then (if a0_9 = a1_9 then (if a0_10 = a1_10 then (if a0_11 = a1_11 then (some true) else (some false)) else (some false)) else (some false)) else (some false)) = some r := H
 have A10 := Aside0.mk A100
 clear A100
 by_cases c11 : t219 = true
 subst c11
 have H1 : (if a0_9 = a1_9 then (if a0_10 = a1_10 then (if a0_11 = a1_11 then (some true) else (some false)) else (some false)) else (some false)) = some r := by rw [if_pos rfl] at H; exact H
 clear H
 have H := H1
 clear H1
 by_cases c12 : a0_9 = a1_9
 rw [if_pos c12] at H
 have c12b0 : (a0_9 == a1_9) = true := beq_iff_eq.mpr c12
 have c12b1 : (a0_9 != a1_9) = false := bne_eq_false_iff_eq.mpr c12
 clear c12
 by_cases c13 : a0_10 = a1_10
 rw [if_pos c13] at H
 have c13b0 : (a0_10 == a1_10) = true := beq_iff_eq.mpr c13
 have c13b1 : (a0_10 != a1_10) = false := bne_eq_false_iff_eq.mpr c13
 clear c13
 by_cases c14 : a0_11 = a1_11
 rw [if_pos c14] at H
 have c14b0 : (a0_11 == a1_11) = true := beq_iff_eq.mpr c14
 have c14b1 : (a0_11 != a1_11) = false := bne_eq_false_iff_eq.mpr c14
 clear c14
 obtain rfl := Option.some.inj H
 rotate_left
 rw [if_neg c14] at H
 have c14b0 : (a0_11 == a1_11) = false := beq_eq_false_iff_ne.mpr c14
 have c14b1 : (a0_11 != a1_11) = true := bne_iff_ne.mpr c14
 obtain rfl := Option.some.inj H
 rotate_left
 rw [if_neg c13] at H
 have c13b0 : (a0_10 == a1_10) = false := beq_eq_false_iff_ne.mpr c13
 have c13b1 : (a0_10 != a1_10) = true := bne_iff_ne.mpr c13
 obtain rfl := Option.some.inj H
 rotate_left
 rw [if_neg c12] at H
 have c12b0 : (a0_9 == a1_9) = false := beq_eq_false_iff_ne.mpr c12
 have c12b1 : (a0_9 != a1_9) = true := bne_iff_ne.mpr c12
 obtain rfl := Option.some.inj H
 rotate_left
 replace c11 := Bool.eq_false_iff.mpr c11
 subst c11
 have H1 : (some false) = some r := by rw [if_neg (show ¬ (false = true) by decide)] at H; exact H
 clear H
 have H := H1
 clear H1
 obtain rfl := Option.some.inj H
 rotate_left
 rw [if_neg c9] at H
 have c9b0 : (a0_6 == a1_6) = false := beq_eq_false_iff_ne.mpr c9
 have c9b1 : (a0_6 != a1_6) = true := bne_iff_ne.mpr c9
 obtain rfl := Option.some.inj H
 rotate_left
 rw [if_neg c8] at H
 have c8b0 : (a0_5 == a1_5) = false := beq_eq_false_iff_ne.mpr c8
 have c8b1 : (a0_5 != a1_5) = true := bne_iff_ne.mpr c8
 obtain rfl := Option.some.inj H
 rotate_left
 replace c7 := Bool.eq_false_iff.mpr c7
 subst c7
 have H1 : (some false) = some r := by rw [if_neg (show ¬ (false = true) by decide)] at H; exact H
 clear H
 have H := H1
 clear H1
 obtain rfl := Option.some.inj H
 rotate_left
 rw [if_neg c5] at H
 have c5b0 : (a0_2 == a1_2) = false := beq_eq_false_iff_ne.mpr c5
 have c5b1 : (a0_2 != a1_2) = true := bne_iff_ne.mpr c5
 obtain rfl := Option.some.inj H
 rotate_left
 rw [if_neg c4] at H
 have c4b0 : (a0_1 == a1_1) = false := beq_eq_false_iff_ne.mpr c4
 have c4b1 : (a0_1 != a1_1) = true := bne_iff_ne.mpr c4
 obtain rfl := Option.some.inj H
 rotate_left
 rw [if_neg c3] at H
 have c3b0 : (a0_0 == a1_0) = false := beq_eq_false_iff_ne.mpr c3
 have c3b1 : (a0_0 != a1_0) = true := bne_iff_ne.mpr c3
 obtain rfl := Option.some.inj H
 rotate_left
 all_goals (
 go_enter Tryd.func16, Tryd.ntmps16
 )
 iterate 4 (
 focus (
 go_wp2_with (first | ((with_reducible refine gate_dst (N := 2) rfl ?_); refine box_event ?hg (N := 2) ?hd (cs := #[.int .i64 a0_0, .int .i64 a0_1, .int .i64 a0_2, .int .i64 a0_3, .int .i64 a0_4, .int .i64 a0_5, .int .i64 a0_6, .int .i64 a0_7, .int .i64 a0_8, .int .i64 a0_9, .int .i64 a0_10, .int .i64 a0_11]) (t := 33) ?hr ?_; (case hd => rfl); (case hg => rfl); (case hr => first | (go_simp; done) | (go_simp; rfl)); intro gb216 hg w1001 hbox hb; have n0_ := Aside0.mk (below_step wB hb); have n1_ := Aside0.mk (hbox); have n2_ := Aside0.mk ((by rw [hg]; exact (below_size wB) : w.heap.size ≤ gb216)); have n3_ := Aside0.mk ((by rw [hg]; exact (below_size wB) : w.heap.size ≤ gb216)); clear HB; have HB := n0_; have BK216 := n1_; have GW216 := n2_; have GE216 := n3_; clear n0_ n1_ n2_ n3_; clear hb hbox hg) | ((with_reducible refine gate_dst (N := 3) rfl ?_); refine box_event ?hg (N := 3) ?hd (cs := #[.int .i64 a1_0, .int .i64 a1_1, .int .i64 a1_2, .int .i64 a1_3, .int .i64 a1_4, .int .i64 a1_5, .int .i64 a1_6, .int .i64 a1_7, .int .i64 a1_8, .int .i64 a1_9, .int .i64 a1_10, .int .i64 a1_11]) (t := 33) ?hr ?_; (case hd => rfl); (case hg => rfl); (case hr => first | (go_simp; done) | (go_simp; rfl)); intro gb217 hg w1002 hbox hb; have n0_ := Aside0.mk (blk_below (Bh BK216) hb); have n1_ := Aside0.mk (below_step wB hb); have n2_ := Aside0.mk (hbox); have n3_ := Aside0.mk ((by rw [hg]; exact (below_size wB) : w.heap.size ≤ gb217)); have n4_ := Aside0.mk ((by rw [hg]; exact (below_size wB) : w.heap.size ≤ gb217)); have n5_ := Aside0.mk ((by rw [hg]; exact Nat.ne_of_lt (blk_lt (Bh BK216)) : gb216 ≠ gb217)); have n6_ := Aside0.mk ((by rw [hg]; exact Nat.ne_of_gt (blk_lt (Bh BK216)) : gb217 ≠ gb216)); clear BK216; clear HB; have BK216 := n0_; have HB := n1_; have BK217 := n2_; have GW217 := n3_; have GE217 := n4_; have NB216_217 := n5_; have NB217_216 := n6_; clear n0_ n1_ n2_ n3_ n4_ n5_ n6_; clear hb hbox hg; have hnb1003 := NB216_217.out; have hnc1003 := NB217_216.out; obtain ⟨⟨hcz1004_0, hcz1004_1, hcz1004_2, hcz1004_3, hcz1004_4, hcz1004_5, hcz1004_6, hcz1004_7, hcz1004_8, hcz1004_9, hcz1004_10, hcz1004_11⟩, hfz1004_0, hfz1004_1, hfz1004_2, hfz1004_3, hfz1004_4, hfz1004_5, hfz1004_6, hfz1004_7, hfz1004_8, hfz1004_9, hfz1004_10, hfz1004_11⟩ := cells12 BK216.out; obtain ⟨⟨hcz1005_0, hcz1005_1, hcz1005_2, hcz1005_3, hcz1005_4, hcz1005_5, hcz1005_6, hcz1005_7, hcz1005_8, hcz1005_9, hcz1005_10, hcz1005_11⟩, hfz1005_0, hfz1005_1, hfz1005_2, hfz1005_3, hfz1005_4, hfz1005_5, hfz1005_6, hfz1005_7, hfz1005_8, hfz1005_9, hfz1005_10, hfz1005_11⟩ := cells12 BK217.out) | ((with_reducible refine gate_callee (f := 28) rfl ?_); refine goesL_ (some 24) rfl rfl Tryd.func28 (by kernel_rfl) rfl #[.agg #[.int .i64 a0_3, .int .i64 a0_4], .agg #[.int .i64 a1_3, .int .i64 a1_4]] rfl wT ?_; (with_reducible refine (laws_eqPrefix.calls a0_3 a0_4 a1_3 a1_4 true _ A6.out).mono ?_); rintro e w1006 ⟨rfl, hb⟩; refine ⟨_, rfl, ?_⟩; have n0_ := Aside0.mk (blk_below (Bh BK216) hb); have n1_ := Aside0.mk (blk_below (Bh BK217) hb); have n2_ := Aside0.mk (below_step wB hb); clear BK216; clear BK217; clear HB; have BK216 := n0_; have BK217 := n1_; have HB := n2_; clear n0_ n1_ n2_; (try clear hb); (try clear hb2); (try clear hk); (try clear hi); obtain ⟨⟨hcz1007_0, hcz1007_1, hcz1007_2, hcz1007_3, hcz1007_4, hcz1007_5, hcz1007_6, hcz1007_7, hcz1007_8, hcz1007_9, hcz1007_10, hcz1007_11⟩, hfz1007_0, hfz1007_1, hfz1007_2, hfz1007_3, hfz1007_4, hfz1007_5, hfz1007_6, hfz1007_7, hfz1007_8, hfz1007_9, hfz1007_10, hfz1007_11⟩ := cells12 BK216.out; obtain ⟨⟨hcz1008_0, hcz1008_1, hcz1008_2, hcz1008_3, hcz1008_4, hcz1008_5, hcz1008_6, hcz1008_7, hcz1008_8, hcz1008_9, hcz1008_10, hcz1008_11⟩, hfz1008_0, hfz1008_1, hfz1008_2, hfz1008_3, hfz1008_4, hfz1008_5, hfz1008_6, hfz1008_7, hfz1008_8, hfz1008_9, hfz1008_10, hfz1008_11⟩ := cells12 BK217.out) | ((with_reducible refine gate_callee (f := 28) rfl ?_); refine goesL_ (some 40) rfl rfl Tryd.func28 (by kernel_rfl) rfl #[.agg #[.int .i64 a0_7, .int .i64 a0_8], .agg #[.int .i64 a1_7, .int .i64 a1_8]] rfl wT ?_; (with_reducible refine (laws_eqPrefix.calls a0_7 a0_8 a1_7 a1_8 true _ A10.out).mono ?_); rintro e w1009 ⟨rfl, hb⟩; refine ⟨_, rfl, ?_⟩; have n0_ := Aside0.mk (blk_below (Bh BK216) hb); have n1_ := Aside0.mk (blk_below (Bh BK217) hb); have n2_ := Aside0.mk (below_step wB hb); clear BK216; clear BK217; clear HB; have BK216 := n0_; have BK217 := n1_; have HB := n2_; clear n0_ n1_ n2_; (try clear hb); (try clear hb2); (try clear hk); (try clear hi); obtain ⟨⟨hcz1010_0, hcz1010_1, hcz1010_2, hcz1010_3, hcz1010_4, hcz1010_5, hcz1010_6, hcz1010_7, hcz1010_8, hcz1010_9, hcz1010_10, hcz1010_11⟩, hfz1010_0, hfz1010_1, hfz1010_2, hfz1010_3, hfz1010_4, hfz1010_5, hfz1010_6, hfz1010_7, hfz1010_8, hfz1010_9, hfz1010_10, hfz1010_11⟩ := cells12 BK216.out; obtain ⟨⟨hcz1011_0, hcz1011_1, hcz1011_2, hcz1011_3, hcz1011_4, hcz1011_5, hcz1011_6, hcz1011_7, hcz1011_8, hcz1011_9, hcz1011_10, hcz1011_11⟩, hfz1011_0, hfz1011_1, hfz1011_2, hfz1011_3, hfz1011_4, hfz1011_5, hfz1011_6, hfz1011_7, hfz1011_8, hfz1011_9, hfz1011_10, hfz1011_11⟩ := cells12 BK217.out))
 go_ret
 exact ⟨by first | rfl | (simp [errW_none, errW_some] <;> rfl) | (simp [*, errW_none, errW_some] <;> rfl), wB⟩
 )
 )
 iterate 3 (
 focus (
 go_wp2_with (first | ((with_reducible refine gate_dst (N := 2) rfl ?_); refine box_event ?hg (N := 2) ?hd (cs := #[.int .i64 a0_0, .int .i64 a0_1, .int .i64 a0_2, .int .i64 a0_3, .int .i64 a0_4, .int .i64 a0_5, .int .i64 a0_6, .int .i64 a0_7, .int .i64 a0_8, .int .i64 a0_9, .int .i64 a0_10, .int .i64 a0_11]) (t := 33) ?hr ?_; (case hd => rfl); (case hg => rfl); (case hr => first | (go_simp; done) | (go_simp; rfl)); intro gb216 hg w1001 hbox hb; have n0_ := Aside0.mk (below_step wB hb); have n1_ := Aside0.mk (hbox); have n2_ := Aside0.mk ((by rw [hg]; exact (below_size wB) : w.heap.size ≤ gb216)); have n3_ := Aside0.mk ((by rw [hg]; exact (below_size wB) : w.heap.size ≤ gb216)); clear HB; have HB := n0_; have BK216 := n1_; have GW216 := n2_; have GE216 := n3_; clear n0_ n1_ n2_ n3_; clear hb hbox hg) | ((with_reducible refine gate_dst (N := 3) rfl ?_); refine box_event ?hg (N := 3) ?hd (cs := #[.int .i64 a1_0, .int .i64 a1_1, .int .i64 a1_2, .int .i64 a1_3, .int .i64 a1_4, .int .i64 a1_5, .int .i64 a1_6, .int .i64 a1_7, .int .i64 a1_8, .int .i64 a1_9, .int .i64 a1_10, .int .i64 a1_11]) (t := 33) ?hr ?_; (case hd => rfl); (case hg => rfl); (case hr => first | (go_simp; done) | (go_simp; rfl)); intro gb217 hg w1002 hbox hb; have n0_ := Aside0.mk (blk_below (Bh BK216) hb); have n1_ := Aside0.mk (below_step wB hb); have n2_ := Aside0.mk (hbox); have n3_ := Aside0.mk ((by rw [hg]; exact (below_size wB) : w.heap.size ≤ gb217)); have n4_ := Aside0.mk ((by rw [hg]; exact (below_size wB) : w.heap.size ≤ gb217)); have n5_ := Aside0.mk ((by rw [hg]; exact Nat.ne_of_lt (blk_lt (Bh BK216)) : gb216 ≠ gb217)); have n6_ := Aside0.mk ((by rw [hg]; exact Nat.ne_of_gt (blk_lt (Bh BK216)) : gb217 ≠ gb216)); clear BK216; clear HB; have BK216 := n0_; have HB := n1_; have BK217 := n2_; have GW217 := n3_; have GE217 := n4_; have NB216_217 := n5_; have NB217_216 := n6_; clear n0_ n1_ n2_ n3_ n4_ n5_ n6_; clear hb hbox hg; have hnb1003 := NB216_217.out; have hnc1003 := NB217_216.out; obtain ⟨⟨hcz1004_0, hcz1004_1, hcz1004_2, hcz1004_3, hcz1004_4, hcz1004_5, hcz1004_6, hcz1004_7, hcz1004_8, hcz1004_9, hcz1004_10, hcz1004_11⟩, hfz1004_0, hfz1004_1, hfz1004_2, hfz1004_3, hfz1004_4, hfz1004_5, hfz1004_6, hfz1004_7, hfz1004_8, hfz1004_9, hfz1004_10, hfz1004_11⟩ := cells12 BK216.out; obtain ⟨⟨hcz1005_0, hcz1005_1, hcz1005_2, hcz1005_3, hcz1005_4, hcz1005_5, hcz1005_6, hcz1005_7, hcz1005_8, hcz1005_9, hcz1005_10, hcz1005_11⟩, hfz1005_0, hfz1005_1, hfz1005_2, hfz1005_3, hfz1005_4, hfz1005_5, hfz1005_6, hfz1005_7, hfz1005_8, hfz1005_9, hfz1005_10, hfz1005_11⟩ := cells12 BK217.out) | ((with_reducible refine gate_callee (f := 28) rfl ?_); refine goesL_ (some 24) rfl rfl Tryd.func28 (by kernel_rfl) rfl #[.agg #[.int .i64 a0_3, .int .i64 a0_4], .agg #[.int .i64 a1_3, .int .i64 a1_4]] rfl wT ?_; (with_reducible refine (laws_eqPrefix.calls a0_3 a0_4 a1_3 a1_4 true _ A6.out).mono ?_); rintro e w1006 ⟨rfl, hb⟩; refine ⟨_, rfl, ?_⟩; have n0_ := Aside0.mk (blk_below (Bh BK216) hb); have n1_ := Aside0.mk (blk_below (Bh BK217) hb); have n2_ := Aside0.mk (below_step wB hb); clear BK216; clear BK217; clear HB; have BK216 := n0_; have BK217 := n1_; have HB := n2_; clear n0_ n1_ n2_; (try clear hb); (try clear hb2); (try clear hk); (try clear hi); obtain ⟨⟨hcz1007_0, hcz1007_1, hcz1007_2, hcz1007_3, hcz1007_4, hcz1007_5, hcz1007_6, hcz1007_7, hcz1007_8, hcz1007_9, hcz1007_10, hcz1007_11⟩, hfz1007_0, hfz1007_1, hfz1007_2, hfz1007_3, hfz1007_4, hfz1007_5, hfz1007_6, hfz1007_7, hfz1007_8, hfz1007_9, hfz1007_10, hfz1007_11⟩ := cells12 BK216.out; obtain ⟨⟨hcz1008_0, hcz1008_1, hcz1008_2, hcz1008_3, hcz1008_4, hcz1008_5, hcz1008_6, hcz1008_7, hcz1008_8, hcz1008_9, hcz1008_10, hcz1008_11⟩, hfz1008_0, hfz1008_1, hfz1008_2, hfz1008_3, hfz1008_4, hfz1008_5, hfz1008_6, hfz1008_7, hfz1008_8, hfz1008_9, hfz1008_10, hfz1008_11⟩ := cells12 BK217.out) | ((with_reducible refine gate_callee (f := 28) rfl ?_); refine goesL_ (some 40) rfl rfl Tryd.func28 (by kernel_rfl) rfl #[.agg #[.int .i64 a0_7, .int .i64 a0_8], .agg #[.int .i64 a1_7, .int .i64 a1_8]] rfl wT ?_; (with_reducible refine (laws_eqPrefix.calls a0_7 a0_8 a1_7 a1_8 false _ A10.out).mono ?_); rintro e w1009 ⟨rfl, hb⟩; refine ⟨_, rfl, ?_⟩; have n0_ := Aside0.mk (blk_below (Bh BK216) hb); have n1_ := Aside0.mk (blk_below (Bh BK217) hb); have n2_ := Aside0.mk (below_step wB hb); clear BK216; clear BK217; clear HB; have BK216 := n0_; have BK217 := n1_; have HB := n2_; clear n0_ n1_ n2_; (try clear hb); (try clear hb2); (try clear hk); (try clear hi)))
 go_ret
 exact ⟨by first | rfl | (simp [errW_none, errW_some] <;> rfl) | (simp [*, errW_none, errW_some] <;> rfl), wB⟩
 )
 )
 all_goals (
 go_wp2_with (first | ((with_reducible refine gate_dst (N := 2) rfl ?_); refine box_event ?hg (N := 2) ?hd (cs := #[.int .i64 a0_0, .int .i64 a0_1, .int .i64 a0_2, .int .i64 a0_3, .int .i64 a0_4, .int .i64 a0_5, .int .i64 a0_6, .int .i64 a0_7, .int .i64 a0_8, .int .i64 a0_9, .int .i64 a0_10, .int .i64 a0_11]) (t := 33) ?hr ?_; (case hd => rfl); (case hg => rfl); (case hr => first | (go_simp; done) | (go_simp; rfl)); intro gb216 hg w1001 hbox hb; have n0_ := Aside0.mk (below_step wB hb); have n1_ := Aside0.mk (hbox); have n2_ := Aside0.mk ((by rw [hg]; exact (below_size wB) : w.heap.size ≤ gb216)); have n3_ := Aside0.mk ((by rw [hg]; exact (below_size wB) : w.heap.size ≤ gb216)); clear HB; have HB := n0_; have BK216 := n1_; have GW216 := n2_; have GE216 := n3_; clear n0_ n1_ n2_ n3_; clear hb hbox hg) | ((with_reducible refine gate_dst (N := 3) rfl ?_); refine box_event ?hg (N := 3) ?hd (cs := #[.int .i64 a1_0, .int .i64 a1_1, .int .i64 a1_2, .int .i64 a1_3, .int .i64 a1_4, .int .i64 a1_5, .int .i64 a1_6, .int .i64 a1_7, .int .i64 a1_8, .int .i64 a1_9, .int .i64 a1_10, .int .i64 a1_11]) (t := 33) ?hr ?_; (case hd => rfl); (case hg => rfl); (case hr => first | (go_simp; done) | (go_simp; rfl)); intro gb217 hg w1002 hbox hb; have n0_ := Aside0.mk (blk_below (Bh BK216) hb); have n1_ := Aside0.mk (below_step wB hb); have n2_ := Aside0.mk (hbox); have n3_ := Aside0.mk ((by rw [hg]; exact (below_size wB) : w.heap.size ≤ gb217)); have n4_ := Aside0.mk ((by rw [hg]; exact (below_size wB) : w.heap.size ≤ gb217)); have n5_ := Aside0.mk ((by rw [hg]; exact Nat.ne_of_lt (blk_lt (Bh BK216)) : gb216 ≠ gb217)); have n6_ := Aside0.mk ((by rw [hg]; exact Nat.ne_of_gt (blk_lt (Bh BK216)) : gb217 ≠ gb216)); clear BK216; clear HB; have BK216 := n0_; have HB := n1_; have BK217 := n2_; have GW217 := n3_; have GE217 := n4_; have NB216_217 := n5_; have NB217_216 := n6_; clear n0_ n1_ n2_ n3_ n4_ n5_ n6_; clear hb hbox hg; have hnb1003 := NB216_217.out; have hnc1003 := NB217_216.out; obtain ⟨⟨hcz1004_0, hcz1004_1, hcz1004_2, hcz1004_3, hcz1004_4, hcz1004_5, hcz1004_6, hcz1004_7, hcz1004_8, hcz1004_9, hcz1004_10, hcz1004_11⟩, hfz1004_0, hfz1004_1, hfz1004_2, hfz1004_3, hfz1004_4, hfz1004_5, hfz1004_6, hfz1004_7, hfz1004_8, hfz1004_9, hfz1004_10, hfz1004_11⟩ := cells12 BK216.out; obtain ⟨⟨hcz1005_0, hcz1005_1, hcz1005_2, hcz1005_3, hcz1005_4, hcz1005_5, hcz1005_6, hcz1005_7, hcz1005_8, hcz1005_9, hcz1005_10, hcz1005_11⟩, hfz1005_0, hfz1005_1, hfz1005_2, hfz1005_3, hfz1005_4, hfz1005_5, hfz1005_6, hfz1005_7, hfz1005_8, hfz1005_9, hfz1005_10, hfz1005_11⟩ := cells12 BK217.out) | ((with_reducible refine gate_callee (f := 28) rfl ?_); refine goesL_ (some 24) rfl rfl Tryd.func28 (by kernel_rfl) rfl #[.agg #[.int .i64 a0_3, .int .i64 a0_4], .agg #[.int .i64 a1_3, .int .i64 a1_4]] rfl wT ?_; (with_reducible refine (laws_eqPrefix.calls a0_3 a0_4 a1_3 a1_4 false _ A6.out).mono ?_); rintro e w1006 ⟨rfl, hb⟩; refine ⟨_, rfl, ?_⟩; have n0_ := Aside0.mk (blk_below (Bh BK216) hb); have n1_ := Aside0.mk (blk_below (Bh BK217) hb); have n2_ := Aside0.mk (below_step wB hb); clear BK216; clear BK217; clear HB; have BK216 := n0_; have BK217 := n1_; have HB := n2_; clear n0_ n1_ n2_; (try clear hb); (try clear hb2); (try clear hk); (try clear hi)))
 go_ret
 exact ⟨by first | rfl | (simp [errW_none, errW_some] <;> rfl) | (simp [*, errW_none, errW_some] <;> rfl), wB⟩
 )

/-! ### laws_eqRuleS: function 8 -/
def laws_eqRuleS.l0 : Nat → List (S33) → List (S33) → Int → Option (Bool)
  | 0, _, _, _ => none
  | k + 1, x0, x1, x5 => if x5 < (x0.length : Int) then (if 0 ≤ x5 then (if x5 < (x1.length : Int) then ((laws_eqRule.f ((rd_T33 x0 x5).f0) ((rd_T33 x0 x5).f1) ((rd_T33 x0 x5).f2) ((rd_T33 x0 x5).f3.f0) ((rd_T33 x0 x5).f3.f1) ((rd_T33 x0 x5).f4) ((rd_T33 x0 x5).f5) ((rd_T33 x0 x5).f6.f0) ((rd_T33 x0 x5).f6.f1) ((rd_T33 x0 x5).f7) ((rd_T33 x0 x5).f8) ((rd_T33 x0 x5).f9) ((rd_T33 x1 x5).f0) ((rd_T33 x1 x5).f1) ((rd_T33 x1 x5).f2) ((rd_T33 x1 x5).f3.f0) ((rd_T33 x1 x5).f3.f1) ((rd_T33 x1 x5).f4) ((rd_T33 x1 x5).f5) ((rd_T33 x1 x5).f6.f0) ((rd_T33 x1 x5).f6.f1) ((rd_T33 x1 x5).f7) ((rd_T33 x1 x5).f8) ((rd_T33 x1 x5).f9)).bind fun t222 => (if t222 = true then (laws_eqRuleS.l0 k x0 x1 (wrap64 (x5 + 1))) else (some false))) else (none)) else (none)) else (some true)
def laws_eqRuleS.f (k : Nat) (l0 : List (S33)) (l1 : List (S33)) : Option (Bool) := if (l0.length : Int) = (l1.length : Int) then (laws_eqRuleS.l0 k l0 l1 0) else (some false)
theorem laws_eqRuleS.mono_l : ∀ k, (∀ y0 y1 y2, LeO (laws_eqRuleS.l0 k y0 y1 y2) (laws_eqRuleS.l0 (k + 1) y0 y1 y2))
  | 0 => fun _ _ _ r h => by simp [laws_eqRuleS.l0] at h
  | k + 1 => by
    have ih0 := laws_eqRuleS.mono_l k
    · intro y0 y1 y2
      unfold laws_eqRuleS.l0
      repeat' first
      | (with_reducible exact ih0 _ _ _)
      | (with_reducible exact LeO.refl _)
      | (with_reducible exact LeO.none _)
      | (with_reducible refine LeO.ite ?_ ?_)
      | (with_reducible refine LeO.bind ?_ (fun _ => ?_))
      | exact ih0 _ _ _
      | exact LeO.none _
      | refine LeO.ite ?_ ?_
      | refine LeO.bind ?_ (fun _ => ?_)
theorem laws_eqRuleS.mono : ∀ a0 a1 k, LeO (laws_eqRuleS.f k a0 a1) (laws_eqRuleS.f (k + 1) a0 a1) := by
 intro a0 a1 k
 have ih0 := laws_eqRuleS.mono_l k
 unfold laws_eqRuleS.f
 repeat' first
     | (with_reducible exact ih0 _ _ _)
     | (with_reducible exact LeO.refl _)
     | (with_reducible exact LeO.none _)
     | (with_reducible refine LeO.ite ?_ ?_)
     | (with_reducible refine LeO.bind ?_ (fun _ => ?_))
     | exact ih0 _ _ _
     | exact LeO.none _
     | refine LeO.ite ?_ ?_
     | refine LeO.bind ?_ (fun _ => ?_)
def laws_eqRuleS.T6 : Bool × List (List Nat × List Nat) := (true, [([], []), ([], []), ([0, 1], [0, 1]), ([2], [2]), ([], []), ([], []), ([4, 5], [4, 5]), ([6], [6]), ([3, 7], [3, 7]), ([8], [8])])
def laws_eqRuleS.B6 : List Nat := [0, 0, 3, 7, 0, 0, 48, 112, 255, 511]
theorem laws_eqRuleS.tab6 : rtab .any (opsOf Tryd.f8 6) = laws_eqRuleS.T6 := by kernel_rfl
theorem laws_eqRuleS.bits6 : waitsOk laws_eqRuleS.T6.2 laws_eqRuleS.B6 = true := by kernel_rfl
set_option maxHeartbeats 60000000 in
set_option maxRecDepth 100000 in
theorem laws_eqRuleS.calls (k : Nat) (A0 : Option Addr) (c0 : Nat) (l0 : List (S33)) (A1 : Option Addr) (c1 : Nat) (l1 : List (S33)) (r : Bool) (w : World) (hr0 : Kd.C k33 w A0 l0.length l0) (hc0 : l0.length ≤ c0) (hr1 : Kd.C k33 w A1 l1.length l1) (hc1 : l1.length ≤ c1) (h : laws_eqRuleS.f k l0 l1 = some r) :
 Calls Tryd.prog 8 #[.slice A0 l0.length c0, .slice A1 l1.length c1] w fun e w' => e = .returned (.bool r) ∧ Below w.heap.size w w' := by
 have hu33 := Tryd.underlying33
 have HR0 := Aside0.mk hr0
 have HC0 := Aside0.mk hc0
 clear hr0 hc0
 have HR1 := Aside0.mk hr1
 have HC1 := Aside0.mk hc1
 clear hr1 hc1
 have HB := Aside0.mk (Below.refl w.heap.size w)
 have H : (if (l0.length : Int) = (l1.length : Int) then (laws_eqRuleS.l0 k l0 l1 0) else (some false)) = some r := h
 clear h
 by_cases c3 : (l0.length : Int) = (l1.length : Int)
 {
 rw [if_pos c3] at H
 have c3b0 : ((l0.length : Int) == (l1.length : Int)) = true := beq_iff_eq.mpr c3
 have c3b1 : ((l0.length : Int) != (l1.length : Int)) = false := bne_eq_false_iff_eq.mpr c3
 have c3b2 : (l0.length == l1.length) = true := by first | simpa using c3 | (simp at c3 ⊢; omega)
 clear c3
 have H' := Aside0.mk H
 clear H
 go_enter Tryd.func8, Tryd.ntmps8
 go_wp2
 go_loopg [5] k (fun kq v5 w' => ∃ (x5_1 : Int), v5 = .int .i64 x5_1 ∧ Aside0 (laws_eqRuleS.l0 kq l0 l1 x5_1 = some r) ∧ Aside0 (kq ≤ k) ∧ Aside0 (Below w.heap.size w w'))
 case atStart => exact ⟨(0), (by first | rfl | (simp; done) | (simp [*]; done)), H', ⟨Nat.le_refl _⟩, ⟨wB⟩⟩
 case round => (
 clear H'
 try clear c3
 try clear c3b0
 try clear c3b1
 try clear c3b2
 obtain ⟨x5_1, rfl, HA, HK1, HB⟩ := hrel
 cases gk with
 | zero => exact absurd HA.out (by simp [laws_eqRuleS.l0])
 | succ k1 => {
 have H := HA.out
 clear HA
 simp only [laws_eqRuleS.l0] at H
 by_cases c1001 : x5_1 < (l0.length : Int)
 rw [if_pos c1001] at H
 have c1001b0 : decide (x5_1 < (l0.length : Int)) = true := decide_eq_true c1001
 clear c1001
 by_cases c1002 : 0 ≤ x5_1
 rw [if_pos c1002] at H
 have c1002b0 : decide (0 ≤ x5_1) = true := decide_eq_true c1002
 clear c1002
 by_cases c1003 : x5_1 < (l1.length : Int)
 rw [if_pos c1003] at H
 have c1003b0 : decide (x5_1 < (l1.length : Int)) = true := decide_eq_true c1003
 clear c1003
 replace H := Option.bind_eq_some_iff.mp H
 obtain ⟨t222, A10040, H⟩ := H
 replace H : (if t222 = true then (laws_eqRuleS.l0 k1 l0 l1 (wrap64 (x5_1 + 1))) else (some false)) = some r := H
 have A1004 := Aside0.mk A10040
 clear A10040
 by_cases c1005 : t222 = true
 subst c1005
 have H1 : (laws_eqRuleS.l0 k1 l0 l1 (wrap64 (x5_1 + 1))) = some r := by rw [if_pos rfl] at H; exact H
 clear H
 have H := H1
 clear H1
 have H' := Aside0.mk H
 clear H
 have bq1_ : True := trivial
 rotate_left
 replace c1005 := Bool.eq_false_iff.mpr c1005
 subst c1005
 have H1 : (some false) = some r := by rw [if_neg (show ¬ (false = true) by decide)] at H; exact H
 clear H
 have H := H1
 clear H1
 obtain rfl := Option.some.inj H
 rotate_left
 rw [if_neg c1003] at H
 exact absurd H (by simp)
 rw [if_neg c1002] at H
 exact absurd H (by simp)
 rw [if_neg c1001] at H
 have c1001b0 : decide (x5_1 < (l0.length : Int)) = false := decide_eq_false c1001
 clear c1001
 obtain rfl := Option.some.inj H
 rotate_left
 all_goals (
 try go_wp2
 )
 iterate 2 (
 focus (
 have n0_ := Aside0.mk (below_drew1 HB.out)
 clear HB
 have HB := n0_
 clear n0_
 have p220 : 0 ≤ (x5_1 : Int) := of_decide_eq_true (by first | (with_reducible assumption) | assumption)
 have q220 : x5_1 < (l0.length : Int) := of_decide_eq_true (by first | (with_reducible assumption) | assumption)
 obtain ⟨ad220, e220, hx220_0, hx220_1, hx220_2, hx220_3, hx220_4, hx220_5, hx220_6, hx220_7, hx220_8, hx220_9, hx220_10, hx220_11⟩ := at_T33 HR0.out x5_1 p220 q220
 have hw220_11 := hx220_11
 have hw220_10 := hx220_10
 have hw220_9 := hx220_9
 have hw220_8 := hx220_8
 have hw220_7 := hx220_7
 have hw220_6 := hx220_6
 have hw220_5 := hx220_5
 have hw220_4 := hx220_4
 have hw220_3 := hx220_3
 have hw220_2 := hx220_2
 have hw220_1 := hx220_1
 have hw220_0 := hx220_0
 cases e220
 replace hx220_0 := (HB.out.cell (World.block_lt_of_cell? w _ hx220_0)).trans hx220_0
 replace hx220_1 := (HB.out.cell (World.block_lt_of_cell? w _ hx220_1)).trans hx220_1
 replace hx220_2 := (HB.out.cell (World.block_lt_of_cell? w _ hx220_2)).trans hx220_2
 replace hx220_3 := (HB.out.cell (World.block_lt_of_cell? w _ hx220_3)).trans hx220_3
 replace hx220_4 := (HB.out.cell (World.block_lt_of_cell? w _ hx220_4)).trans hx220_4
 replace hx220_5 := (HB.out.cell (World.block_lt_of_cell? w _ hx220_5)).trans hx220_5
 replace hx220_6 := (HB.out.cell (World.block_lt_of_cell? w _ hx220_6)).trans hx220_6
 replace hx220_7 := (HB.out.cell (World.block_lt_of_cell? w _ hx220_7)).trans hx220_7
 replace hx220_8 := (HB.out.cell (World.block_lt_of_cell? w _ hx220_8)).trans hx220_8
 replace hx220_9 := (HB.out.cell (World.block_lt_of_cell? w _ hx220_9)).trans hx220_9
 replace hx220_10 := (HB.out.cell (World.block_lt_of_cell? w _ hx220_10)).trans hx220_10
 replace hx220_11 := (HB.out.cell (World.block_lt_of_cell? w _ hx220_11)).trans hx220_11
 replace p220 := eq_true p220
 replace q220 := eq_true q220
 have p221 : 0 ≤ (x5_1 : Int) := of_decide_eq_true (by first | (with_reducible assumption) | assumption)
 have q221 : x5_1 < (l1.length : Int) := of_decide_eq_true (by first | (with_reducible assumption) | assumption)
 obtain ⟨ad221, e221, hx221_0, hx221_1, hx221_2, hx221_3, hx221_4, hx221_5, hx221_6, hx221_7, hx221_8, hx221_9, hx221_10, hx221_11⟩ := at_T33 HR1.out x5_1 p221 q221
 have hw221_11 := hx221_11
 have hw221_10 := hx221_10
 have hw221_9 := hx221_9
 have hw221_8 := hx221_8
 have hw221_7 := hx221_7
 have hw221_6 := hx221_6
 have hw221_5 := hx221_5
 have hw221_4 := hx221_4
 have hw221_3 := hx221_3
 have hw221_2 := hx221_2
 have hw221_1 := hx221_1
 have hw221_0 := hx221_0
 cases e221
 replace hx221_0 := (HB.out.cell (World.block_lt_of_cell? w _ hx221_0)).trans hx221_0
 replace hx221_1 := (HB.out.cell (World.block_lt_of_cell? w _ hx221_1)).trans hx221_1
 replace hx221_2 := (HB.out.cell (World.block_lt_of_cell? w _ hx221_2)).trans hx221_2
 replace hx221_3 := (HB.out.cell (World.block_lt_of_cell? w _ hx221_3)).trans hx221_3
 replace hx221_4 := (HB.out.cell (World.block_lt_of_cell? w _ hx221_4)).trans hx221_4
 replace hx221_5 := (HB.out.cell (World.block_lt_of_cell? w _ hx221_5)).trans hx221_5
 replace hx221_6 := (HB.out.cell (World.block_lt_of_cell? w _ hx221_6)).trans hx221_6
 replace hx221_7 := (HB.out.cell (World.block_lt_of_cell? w _ hx221_7)).trans hx221_7
 replace hx221_8 := (HB.out.cell (World.block_lt_of_cell? w _ hx221_8)).trans hx221_8
 replace hx221_9 := (HB.out.cell (World.block_lt_of_cell? w _ hx221_9)).trans hx221_9
 replace hx221_10 := (HB.out.cell (World.block_lt_of_cell? w _ hx221_10)).trans hx221_10
 replace hx221_11 := (HB.out.cell (World.block_lt_of_cell? w _ hx221_11)).trans hx221_11
 replace p221 := eq_true p221
 replace q221 := eq_true q221
 refine start_ (n := 10) (S := fun w' => w'.cell? (ad220.add ((x5_1).toNat * 12)) = some (.int .i64 ((rd_T33 l0 x5_1).f0)) ∧ w'.cell? ⟨(ad220.add ((x5_1).toNat * 12)).block, (ad220.add ((x5_1).toNat * 12)).off + 1, none⟩ = some (.int .i64 ((rd_T33 l0 x5_1).f1)) ∧ w'.cell? ⟨(ad220.add ((x5_1).toNat * 12)).block, (ad220.add ((x5_1).toNat * 12)).off + 2, none⟩ = some (.int .i64 ((rd_T33 l0 x5_1).f2)) ∧ w'.cell? ⟨(ad220.add ((x5_1).toNat * 12)).block, (ad220.add ((x5_1).toNat * 12)).off + 3, none⟩ = some (.int .i64 ((rd_T33 l0 x5_1).f3.f0)) ∧ w'.cell? ⟨(ad220.add ((x5_1).toNat * 12)).block, (ad220.add ((x5_1).toNat * 12)).off + 4, none⟩ = some (.int .i64 ((rd_T33 l0 x5_1).f3.f1)) ∧ w'.cell? ⟨(ad220.add ((x5_1).toNat * 12)).block, (ad220.add ((x5_1).toNat * 12)).off + 5, none⟩ = some (.int .i64 ((rd_T33 l0 x5_1).f4)) ∧ w'.cell? ⟨(ad220.add ((x5_1).toNat * 12)).block, (ad220.add ((x5_1).toNat * 12)).off + 6, none⟩ = some (.int .i64 ((rd_T33 l0 x5_1).f5)) ∧ w'.cell? ⟨(ad220.add ((x5_1).toNat * 12)).block, (ad220.add ((x5_1).toNat * 12)).off + 7, none⟩ = some (.int .i64 ((rd_T33 l0 x5_1).f6.f0)) ∧ w'.cell? ⟨(ad220.add ((x5_1).toNat * 12)).block, (ad220.add ((x5_1).toNat * 12)).off + 8, none⟩ = some (.int .i64 ((rd_T33 l0 x5_1).f6.f1)) ∧ w'.cell? ⟨(ad220.add ((x5_1).toNat * 12)).block, (ad220.add ((x5_1).toNat * 12)).off + 9, none⟩ = some (.int .i64 ((rd_T33 l0 x5_1).f7)) ∧ w'.cell? ⟨(ad220.add ((x5_1).toNat * 12)).block, (ad220.add ((x5_1).toNat * 12)).off + 10, none⟩ = some (.int .i64 ((rd_T33 l0 x5_1).f8)) ∧ w'.cell? ⟨(ad220.add ((x5_1).toNat * 12)).block, (ad220.add ((x5_1).toNat * 12)).off + 11, none⟩ = some (.int .i64 ((rd_T33 l0 x5_1).f9)) ∧ w'.cell? (ad221.add ((x5_1).toNat * 12)) = some (.int .i64 ((rd_T33 l1 x5_1).f0)) ∧ w'.cell? ⟨(ad221.add ((x5_1).toNat * 12)).block, (ad221.add ((x5_1).toNat * 12)).off + 1, none⟩ = some (.int .i64 ((rd_T33 l1 x5_1).f1)) ∧ w'.cell? ⟨(ad221.add ((x5_1).toNat * 12)).block, (ad221.add ((x5_1).toNat * 12)).off + 2, none⟩ = some (.int .i64 ((rd_T33 l1 x5_1).f2)) ∧ w'.cell? ⟨(ad221.add ((x5_1).toNat * 12)).block, (ad221.add ((x5_1).toNat * 12)).off + 3, none⟩ = some (.int .i64 ((rd_T33 l1 x5_1).f3.f0)) ∧ w'.cell? ⟨(ad221.add ((x5_1).toNat * 12)).block, (ad221.add ((x5_1).toNat * 12)).off + 4, none⟩ = some (.int .i64 ((rd_T33 l1 x5_1).f3.f1)) ∧ w'.cell? ⟨(ad221.add ((x5_1).toNat * 12)).block, (ad221.add ((x5_1).toNat * 12)).off + 5, none⟩ = some (.int .i64 ((rd_T33 l1 x5_1).f4)) ∧ w'.cell? ⟨(ad221.add ((x5_1).toNat * 12)).block, (ad221.add ((x5_1).toNat * 12)).off + 6, none⟩ = some (.int .i64 ((rd_T33 l1 x5_1).f5)) ∧ w'.cell? ⟨(ad221.add ((x5_1).toNat * 12)).block, (ad221.add ((x5_1).toNat * 12)).off + 7, none⟩ = some (.int .i64 ((rd_T33 l1 x5_1).f6.f0)) ∧ w'.cell? ⟨(ad221.add ((x5_1).toNat * 12)).block, (ad221.add ((x5_1).toNat * 12)).off + 8, none⟩ = some (.int .i64 ((rd_T33 l1 x5_1).f6.f1)) ∧ w'.cell? ⟨(ad221.add ((x5_1).toNat * 12)).block, (ad221.add ((x5_1).toNat * 12)).off + 9, none⟩ = some (.int .i64 ((rd_T33 l1 x5_1).f7)) ∧ w'.cell? ⟨(ad221.add ((x5_1).toNat * 12)).block, (ad221.add ((x5_1).toNat * 12)).off + 10, none⟩ = some (.int .i64 ((rd_T33 l1 x5_1).f8)) ∧ w'.cell? ⟨(ad221.add ((x5_1).toNat * 12)).block, (ad221.add ((x5_1).toNat * 12)).off + 11, none⟩ = some (.int .i64 ((rd_T33 l1 x5_1).f9))) (ds := []) #[false, false, false, false, false, false, false, false, false, false] (by kernel_rfl) rfl rfl ⟨((HB.out.cell (World.block_lt_of_cell? w _ hw220_0)).trans hw220_0), ((HB.out.cell (World.block_lt_of_cell? w _ hw220_1)).trans hw220_1), ((HB.out.cell (World.block_lt_of_cell? w _ hw220_2)).trans hw220_2), ((HB.out.cell (World.block_lt_of_cell? w _ hw220_3)).trans hw220_3), ((HB.out.cell (World.block_lt_of_cell? w _ hw220_4)).trans hw220_4), ((HB.out.cell (World.block_lt_of_cell? w _ hw220_5)).trans hw220_5), ((HB.out.cell (World.block_lt_of_cell? w _ hw220_6)).trans hw220_6), ((HB.out.cell (World.block_lt_of_cell? w _ hw220_7)).trans hw220_7), ((HB.out.cell (World.block_lt_of_cell? w _ hw220_8)).trans hw220_8), ((HB.out.cell (World.block_lt_of_cell? w _ hw220_9)).trans hw220_9), ((HB.out.cell (World.block_lt_of_cell? w _ hw220_10)).trans hw220_10), ((HB.out.cell (World.block_lt_of_cell? w _ hw220_11)).trans hw220_11), ((HB.out.cell (World.block_lt_of_cell? w _ hw221_0)).trans hw221_0), ((HB.out.cell (World.block_lt_of_cell? w _ hw221_1)).trans hw221_1), ((HB.out.cell (World.block_lt_of_cell? w _ hw221_2)).trans hw221_2), ((HB.out.cell (World.block_lt_of_cell? w _ hw221_3)).trans hw221_3), ((HB.out.cell (World.block_lt_of_cell? w _ hw221_4)).trans hw221_4), ((HB.out.cell (World.block_lt_of_cell? w _ hw221_5)).trans hw221_5), ((HB.out.cell (World.block_lt_of_cell? w _ hw221_6)).trans hw221_6), ((HB.out.cell (World.block_lt_of_cell? w _ hw221_7)).trans hw221_7), ((HB.out.cell (World.block_lt_of_cell? w _ hw221_8)).trans hw221_8), ((HB.out.cell (World.block_lt_of_cell? w _ hw221_9)).trans hw221_9), ((HB.out.cell (World.block_lt_of_cell? w _ hw221_10)).trans hw221_10), ((HB.out.cell (World.block_lt_of_cell? w _ hw221_11)).trans hw221_11)⟩ (fun hHeld => ?_); refine with_tabW laws_eqRuleS.tab6 laws_eqRuleS.bits6 (fun HT_ HW_ => ?_)
 generalize wr.drew = w2001 at HB hx220_0 hx220_1 hx220_10 hx220_11 hx220_2 hx220_3 hx220_4 hx220_5 hx220_6 hx220_7 hx220_8 hx220_9 hx221_0 hx221_1 hx221_10 hx221_11 hx221_2 hx221_3 hx221_4 hx221_5 hx221_6 hx221_7 hx221_8 hx221_9 hHeld ⊢
 refine pure_ (i := 0) (N := some 17) (v := ?_) (a' := ?_) #[true, false, false, false, false, false, false, false, false, false] rfl rfl (any_of HT_.out (by kernel_rfl)) (fun _ _ _ h => h) (Or.inl ⟨by rfl, ?_⟩) ?_ ?_
 rotate_left
 {
 intro w'
 go_simp
 with_reducible rfl
 }
 rotate_left
 {
 simp only [Act.put, List.setIfInBounds_toArray, List.set_cons_zero, List.set_cons_succ, i64_w, i32_w]
 rfl
 }
 refine pure_ (i := 1) (N := some 18) (v := ?_) (a' := ?_) #[true, true, false, false, false, false, false, false, false, false] rfl rfl (any_of HT_.out (by kernel_rfl)) (fun _ _ _ h => h) (Or.inl ⟨by rfl, ?_⟩) ?_ ?_
 rotate_left
 {
 intro w'
 go_simp
 with_reducible rfl
 }
 rotate_left
 {
 simp only [Act.put, List.setIfInBounds_toArray, List.set_cons_zero, List.set_cons_succ, i64_w, i32_w]
 rfl
 }
 refine pure_ (i := 2) (N := some 19) (v := ?_) (a' := ?_) #[true, true, true, false, false, false, false, false, false, false] rfl rfl (any_of HT_.out (by kernel_rfl)) (fun _ _ _ h => h) (Or.inl ⟨by rfl, ?_⟩) ?_ ?_
 rotate_left
 {
 intro w'
 go_simp
 with_reducible rfl
 }
 rotate_left
 {
 simp only [Act.put, List.setIfInBounds_toArray, List.set_cons_zero, List.set_cons_succ, i64_w, i32_w]
 rfl
 }
 refine pure_ (i := 4) (N := some 21) (v := ?_) (a' := ?_) #[true, true, true, false, true, false, false, false, false, false] rfl rfl (any_of HT_.out (by kernel_rfl)) (fun _ _ _ h => h) (Or.inl ⟨by rfl, ?_⟩) ?_ ?_
 rotate_left
 {
 intro w'
 go_simp
 with_reducible rfl
 }
 rotate_left
 {
 simp only [Act.put, List.setIfInBounds_toArray, List.set_cons_zero, List.set_cons_succ, i64_w, i32_w]
 rfl
 }
 refine pure_ (i := 5) (N := some 22) (v := ?_) (a' := ?_) #[true, true, true, false, true, true, false, false, false, false] rfl rfl (any_of HT_.out (by kernel_rfl)) (fun _ _ _ h => h) (Or.inl ⟨by rfl, ?_⟩) ?_ ?_
 rotate_left
 {
 intro w'
 go_simp
 with_reducible rfl
 }
 rotate_left
 {
 simp only [Act.put, List.setIfInBounds_toArray, List.set_cons_zero, List.set_cons_succ, i64_w, i32_w]
 rfl
 }
 refine pure_ (i := 6) (N := some 23) (v := ?_) (a' := ?_) #[true, true, true, false, true, true, true, false, false, false] rfl rfl (any_of HT_.out (by kernel_rfl)) (fun _ _ _ h => h) (Or.inl ⟨by rfl, ?_⟩) ?_ ?_
 rotate_left
 {
 intro w'
 go_simp
 with_reducible rfl
 }
 rotate_left
 {
 simp only [Act.put, List.setIfInBounds_toArray, List.set_cons_zero, List.set_cons_succ, i64_w, i32_w]
 rfl
 }
 refine take_ (i := 3) (N := some 20) (v := ?_) (a' := ?_) #[true, true, true, true, true, true, true, false, false, false] rfl rfl (take_ofW HT_.out HW_.out (by kernel_rfl)) (fun _ _ _ h => h) (Or.inl ⟨by rfl, ?_⟩) hHeld ?_ ?_
 rotate_left
 {
 rintro w' ⟨s0, s1, s2, s3, s4, s5, s6, s7, s8, s9, s10, s11, s12, s13, s14, s15, s16, s17, s18, s19, s20, s21, s22, s23⟩
 go_simp
 with_reducible rfl
 }
 rotate_left
 {
 simp only [Act.put, List.setIfInBounds_toArray, List.set_cons_zero, List.set_cons_succ, i64_w, i32_w]
 rfl
 }
 refine take_ (i := 7) (N := some 24) (v := ?_) (a' := ?_) #[true, true, true, true, true, true, true, true, false, false] rfl rfl (take_ofW HT_.out HW_.out (by kernel_rfl)) (fun _ _ _ h => h) (Or.inl ⟨by rfl, ?_⟩) hHeld ?_ ?_
 rotate_left
 {
 rintro w' ⟨s0, s1, s2, s3, s4, s5, s6, s7, s8, s9, s10, s11, s12, s13, s14, s15, s16, s17, s18, s19, s20, s21, s22, s23⟩
 go_simp
 with_reducible rfl
 }
 rotate_left
 {
 simp only [Act.put, List.setIfInBounds_toArray, List.set_cons_zero, List.set_cons_succ, i64_w, i32_w]
 rfl
 }
 refine one_ (i := 8) (N := some 25) #[true, true, true, true, true, true, true, true, true, false] rfl rfl (one_of HT_.out (by kernel_rfl)) (by decide) (fun K hK => ?_)
 refine goes_ Tryd.func16 (by kernel_rfl) rfl #[.agg #[.int .i64 ((rd_T33 l0 x5_1).f0), .int .i64 ((rd_T33 l0 x5_1).f1), .int .i64 ((rd_T33 l0 x5_1).f2), .int .i64 ((rd_T33 l0 x5_1).f3.f0), .int .i64 ((rd_T33 l0 x5_1).f3.f1), .int .i64 ((rd_T33 l0 x5_1).f4), .int .i64 ((rd_T33 l0 x5_1).f5), .int .i64 ((rd_T33 l0 x5_1).f6.f0), .int .i64 ((rd_T33 l0 x5_1).f6.f1), .int .i64 ((rd_T33 l0 x5_1).f7), .int .i64 ((rd_T33 l0 x5_1).f8), .int .i64 ((rd_T33 l0 x5_1).f9)], .agg #[.int .i64 ((rd_T33 l1 x5_1).f0), .int .i64 ((rd_T33 l1 x5_1).f1), .int .i64 ((rd_T33 l1 x5_1).f2), .int .i64 ((rd_T33 l1 x5_1).f3.f0), .int .i64 ((rd_T33 l1 x5_1).f3.f1), .int .i64 ((rd_T33 l1 x5_1).f4), .int .i64 ((rd_T33 l1 x5_1).f5), .int .i64 ((rd_T33 l1 x5_1).f6.f0), .int .i64 ((rd_T33 l1 x5_1).f6.f1), .int .i64 ((rd_T33 l1 x5_1).f7), .int .i64 ((rd_T33 l1 x5_1).f8), .int .i64 ((rd_T33 l1 x5_1).f9)]] (by rfl) rfl rfl wT ?_
 with_reducible refine (laws_eqRule.calls ((rd_T33 l0 x5_1).f0) ((rd_T33 l0 x5_1).f1) ((rd_T33 l0 x5_1).f2) ((rd_T33 l0 x5_1).f3.f0) ((rd_T33 l0 x5_1).f3.f1) ((rd_T33 l0 x5_1).f4) ((rd_T33 l0 x5_1).f5) ((rd_T33 l0 x5_1).f6.f0) ((rd_T33 l0 x5_1).f6.f1) ((rd_T33 l0 x5_1).f7) ((rd_T33 l0 x5_1).f8) ((rd_T33 l0 x5_1).f9) ((rd_T33 l1 x5_1).f0) ((rd_T33 l1 x5_1).f1) ((rd_T33 l1 x5_1).f2) ((rd_T33 l1 x5_1).f3.f0) ((rd_T33 l1 x5_1).f3.f1) ((rd_T33 l1 x5_1).f4) ((rd_T33 l1 x5_1).f5) ((rd_T33 l1 x5_1).f6.f0) ((rd_T33 l1 x5_1).f6.f1) ((rd_T33 l1 x5_1).f7) ((rd_T33 l1 x5_1).f8) ((rd_T33 l1 x5_1).f9) (by first | (clear bq1_; exact true) | exact false) _ A1004.out).mono ?_
 rintro e w2002 ⟨rfl, hb⟩
 refine ⟨_, rfl, ?_⟩
 have n0_ := Aside0.mk (below_step wB hb)
 clear HB
 have HB := n0_
 clear n0_
 (try clear hb)
 (try clear hb2)
 (try clear hk)
 (try clear hi)
 refine hK.out _ _ ⟨((HB.out.cell (World.block_lt_of_cell? w _ hw220_0)).trans hw220_0), ((HB.out.cell (World.block_lt_of_cell? w _ hw220_1)).trans hw220_1), ((HB.out.cell (World.block_lt_of_cell? w _ hw220_2)).trans hw220_2), ((HB.out.cell (World.block_lt_of_cell? w _ hw220_3)).trans hw220_3), ((HB.out.cell (World.block_lt_of_cell? w _ hw220_4)).trans hw220_4), ((HB.out.cell (World.block_lt_of_cell? w _ hw220_5)).trans hw220_5), ((HB.out.cell (World.block_lt_of_cell? w _ hw220_6)).trans hw220_6), ((HB.out.cell (World.block_lt_of_cell? w _ hw220_7)).trans hw220_7), ((HB.out.cell (World.block_lt_of_cell? w _ hw220_8)).trans hw220_8), ((HB.out.cell (World.block_lt_of_cell? w _ hw220_9)).trans hw220_9), ((HB.out.cell (World.block_lt_of_cell? w _ hw220_10)).trans hw220_10), ((HB.out.cell (World.block_lt_of_cell? w _ hw220_11)).trans hw220_11), ((HB.out.cell (World.block_lt_of_cell? w _ hw221_0)).trans hw221_0), ((HB.out.cell (World.block_lt_of_cell? w _ hw221_1)).trans hw221_1), ((HB.out.cell (World.block_lt_of_cell? w _ hw221_2)).trans hw221_2), ((HB.out.cell (World.block_lt_of_cell? w _ hw221_3)).trans hw221_3), ((HB.out.cell (World.block_lt_of_cell? w _ hw221_4)).trans hw221_4), ((HB.out.cell (World.block_lt_of_cell? w _ hw221_5)).trans hw221_5), ((HB.out.cell (World.block_lt_of_cell? w _ hw221_6)).trans hw221_6), ((HB.out.cell (World.block_lt_of_cell? w _ hw221_7)).trans hw221_7), ((HB.out.cell (World.block_lt_of_cell? w _ hw221_8)).trans hw221_8), ((HB.out.cell (World.block_lt_of_cell? w _ hw221_9)).trans hw221_9), ((HB.out.cell (World.block_lt_of_cell? w _ hw221_10)).trans hw221_10), ((HB.out.cell (World.block_lt_of_cell? w _ hw221_11)).trans hw221_11)⟩ (fun hHeld => ?_)
 clear hK K
 refine norm_ (a' := ?_) ?_ ?_
 rotate_left
 {
 show Act.put _ (some 25) _ = _
 simp only [Act.put, List.setIfInBounds_toArray, List.set_cons_zero, List.set_cons_succ, i64_w, i32_w]
 rfl
 }
 refine pure_ (i := 9) (N := some 26) (v := ?_) (a' := ?_) #[true, true, true, true, true, true, true, true, true, true] rfl rfl (any_of HT_.out (by kernel_rfl)) (fun _ _ _ h => h) (Or.inl ⟨by rfl, ?_⟩) ?_ ?_
 rotate_left
 {
 intro w'
 go_simp
 with_reducible rfl
 }
 rotate_left
 {
 simp only [Act.put, List.setIfInBounds_toArray, List.set_cons_zero, List.set_cons_succ, i64_w, i32_w]
 rfl
 }
 refine done_ (done_of HT_.out (by kernel_rfl)) ?_
 try go_wp2
 )
 rotate_left
 )
 rotate_right 2
 {
 go_roundg k1
 case measure => have := HK1.out; omega
 case rel => exact ⟨(wrap64 (x5_1 + 1)), (by first | rfl | (simp; done) | (simp [*]; done)), H', ⟨by have := HK1.out; omega⟩, ⟨wB⟩⟩
 }
 {
 go_ret
 exact ⟨by first | rfl | (simp [errW_none, errW_some] <;> rfl) | (simp [*, errW_none, errW_some] <;> rfl), wB⟩
 }
 {
 go_ret
 exact ⟨by first | rfl | (simp [errW_none, errW_some] <;> rfl) | (simp [*, errW_none, errW_some] <;> rfl), wB⟩
 }
 }
 )
 }
 {
 rw [if_neg c3] at H
 have c3b0 : ((l0.length : Int) == (l1.length : Int)) = false := beq_eq_false_iff_ne.mpr c3
 have c3b1 : ((l0.length : Int) != (l1.length : Int)) = true := bne_iff_ne.mpr c3
 have c3b2 : (l0.length == l1.length) = false := by first | simpa using c3 | (simp at c3 ⊢; omega)
 obtain rfl := Option.some.inj H
 go_enter Tryd.func8, Tryd.ntmps8
 go_wp2
 go_ret
 exact ⟨by first | rfl | (simp [errW_none, errW_some] <;> rfl) | (simp [*, errW_none, errW_some] <;> rfl), wB⟩
 }

end Go.Proofs.YtmgapmpmmkmdhaaDoor.PFnExactShowRules
