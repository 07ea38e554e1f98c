-- Written for this claim by a program of this session (wip/mkprint.py: the print, turned at a few places). Not trusted: Lean checks it.
import Derived.Test.YtnnplkhjmdbmbaaDoorPFnExactShowRoutesx0
import Derived.Test.YtnnplkhjmdbmbaaDoorPFnExactShowRoutesx1
import Derived.Test.YtnnplkhjmdbmbaaDoorPFnExactShowRoutesx2
import Derived.Test.YtnnplkhjmdbmbaaDoorPFnExactShowRoutesx3
namespace Go.Proofs.YtnnplkhjmdbmbaaDoor.PFnExactShowRoutes
open Go.RowKit Go.Proofs.YtnnplkhjmdbmbaaDoorW.PrintWords Go.Proofs.YtnnplkhjmdbmbaaDoorW.PrintLast Go.Proofs.YtnnplkhjmdbmbaaDoorW.PrintMore
attribute [local go_sem] max2_int min2_int max_two min_two max_three min_three max_four min_four   -- for this text's walks alone
set_option linter.unusedVariables false
set_option linter.unusedSimpArgs false

/-! ### impl_ShowRoutes: function 31 -/
def impl_ShowRoutes.l0 : Nat → ByteArray → List (S74) → Int → Int → Option (ByteArray × Int)
  | 0, _, _, _, _ => none
  | k + 1, x4, x10, x11, x12 => if x12 < x11 then (if 0 ≤ x12 then (if x12 < (x10.length : Int) then ((impl_okRoute.f ((rd_T74 x10 x12).f0.f0) ((rd_T74 x10 x12).f0.f1) ((rd_T74 x10 x12).f1) ((rd_T74 x10 x12).f2) ((rd_T74 x10 x12).f3)).bind fun t189 => (if t189 = true then ((impl_showRoute.f k ((rd_T74 x10 x12).f0.f0) ((rd_T74 x10 x12).f0.f1) ((rd_T74 x10 x12).f1) ((rd_T74 x10 x12).f2) ((rd_T74 x10 x12).f3)).bind fun t190 => (if t190.size + 1 ≤ 9223372036854775807 then (if x4.size + (t190 ++ (⟨#[10]⟩ : ByteArray)).size ≤ 9223372036854775807 then (impl_ShowRoutes.l0 k (x4 ++ (t190 ++ (⟨#[10]⟩ : ByteArray))) x10 x11 (wrap64 (x12 + 1))) else (none)) else (none))) else (some ((⟨#[]⟩ : ByteArray), 1)))) else (none)) else (none)) else (some (x4, 0))
def impl_ShowRoutes.f (k : Nat) (l0 : List (S74)) : Option (ByteArray × Int) := if (l0.length : Int) > 64 then (some ((⟨#[]⟩ : ByteArray), 8)) else (impl_ShowRoutes.l0 k (⟨#[]⟩ : ByteArray) l0 (l0.length : Int) 0)
theorem impl_ShowRoutes.mono_l : ∀ k, (∀ y0 y1 y2 y3, LeO (impl_ShowRoutes.l0 k y0 y1 y2 y3) (impl_ShowRoutes.l0 (k + 1) y0 y1 y2 y3))
  | 0 => fun _ _ _ _ r h => by simp [impl_ShowRoutes.l0] at h
  | k + 1 => by
    have ih0 := impl_ShowRoutes.mono_l k
    · intro y0 y1 y2 y3
      unfold impl_ShowRoutes.l0
      repeat' first
      | (with_reducible exact ih0 _ _ _ _)
      | (with_reducible exact impl_showRoute.mono _ _ _ _ _ _)
      | (with_reducible exact LeO.refl _)
      | (with_reducible exact LeO.none _)
      | (with_reducible refine LeO.ite ?_ ?_)
      | (with_reducible refine LeO.bind ?_ (fun _ => ?_))
      | exact ih0 _ _ _ _
      | exact impl_showRoute.mono _ _ _ _ _ _
      | exact LeO.none _
      | refine LeO.ite ?_ ?_
      | refine LeO.bind ?_ (fun _ => ?_)
theorem impl_ShowRoutes.mono : ∀ a0 k, LeO (impl_ShowRoutes.f k a0) (impl_ShowRoutes.f (k + 1) a0) := by
 intro a0 k
 have ih0 := impl_ShowRoutes.mono_l k
 unfold impl_ShowRoutes.f
 repeat' first
     | (with_reducible exact ih0 _ _ _ _)
     | (with_reducible exact impl_showRoute.mono _ _ _ _ _ _)
     | (with_reducible exact LeO.refl _)
     | (with_reducible exact LeO.none _)
     | (with_reducible refine LeO.ite ?_ ?_)
     | (with_reducible refine LeO.bind ?_ (fun _ => ?_))
     | exact ih0 _ _ _ _
     | exact impl_showRoute.mono _ _ _ _ _ _
     | exact LeO.none _
     | refine LeO.ite ?_ ?_
     | refine LeO.bind ?_ (fun _ => ?_)
set_option maxHeartbeats 60000000 in
set_option maxRecDepth 100000 in
theorem impl_ShowRoutes.calls (k : Nat) (A0 : Option Addr) (c0 : Nat) (l0 : List (S74)) (r1 : ByteArray) (r2 : Int) (w : World) (hr0 : Kd.C k74 w A0 l0.length l0) (hc0 : l0.length ≤ c0) (hd : Door w) (h : impl_ShowRoutes.f k l0 = some (r1, r2)) :
 Calls Tryd.prog 31 #[.slice A0 l0.length c0] w fun e w' => e = .returned (.tuple #[.string r1, .int .i64 r2]) ∧ Below w.heap.size w w' := by
 have hu74 := Tryd.underlying74
 have HR0 := Aside0.mk hr0
 have HC0 := Aside0.mk hc0
 clear hr0 hc0
 have HD := Aside0.mk hd
 clear hd
 have HB := Aside0.mk (Below.refl w.heap.size w)
 have H : (if (l0.length : Int) > 64 then (some ((⟨#[]⟩ : ByteArray), 8)) else (impl_ShowRoutes.l0 k (⟨#[]⟩ : ByteArray) l0 (l0.length : Int) 0)) = some (r1, r2) := h
 clear h
 by_cases c2 : (l0.length : Int) > 64
 {
 rw [if_pos c2] at H
 have c2b0 : decide (64 < (l0.length : Int)) = true := decide_eq_true c2
 have c2b1 : decide (64 < l0.length) = true := decide_eq_true (by omega)
 clear c2
 simp only [Option.some.injEq, Prod.mk.injEq] at H
 obtain ⟨rfl, rfl⟩ := H
 go_enter Tryd.func31, Tryd.ntmps31
 go_wp2
 go_ret2
 exact ⟨by first | rfl | (simp [errW_none, errW_some] <;> rfl) | (simp [*, errW_none, errW_some] <;> rfl), wB⟩
 }
 {
 rw [if_neg c2] at H
 have c2b0 : decide (64 < (l0.length : Int)) = false := decide_eq_false c2
 have c2b1 : decide (64 < l0.length) = false := decide_eq_false (by omega)
 clear c2
 have H' := Aside0.mk H
 clear H
 go_enter Tryd.func31, Tryd.ntmps31
 go_wp2
 go_loopg [4, 12] k (fun kq v4 v12 w' => ∃ (x4_1 : ByteArray) (x12_1 : Int), v4 = .string x4_1 ∧ v12 = .int .i64 x12_1 ∧ Aside0 (impl_ShowRoutes.l0 kq x4_1 l0 (l0.length : Int) x12_1 = some (r1, r2)) ∧ Aside0 (kq ≤ k) ∧ Aside0 (Below w.heap.size w w'))
 case atStart => exact ⟨((⟨#[]⟩ : ByteArray)), (0), (by first | rfl | (simp; done) | (simp [*]; done)), (by first | rfl | (simp; done) | (simp [*]; done)), H', ⟨Nat.le_refl _⟩, ⟨wB⟩⟩
 case round => (
 clear H'
 try clear c2
 try clear c2b0
 try clear c2b1
 try clear p2
 obtain ⟨x4_1, x12_1, rfl, rfl, HA, HK1, HB⟩ := hrel
 cases gk with
 | zero => exact absurd HA.out (by simp [impl_ShowRoutes.l0])
 | succ k1 => {
 have H := HA.out
 clear HA
 simp only [impl_ShowRoutes.l0] at H
 by_cases c1001 : x12_1 < (l0.length : Int)
 rw [if_pos c1001] at H
 have c1001b0 : decide (x12_1 < (l0.length : Int)) = true := decide_eq_true c1001
 clear c1001
 by_cases c1002 : 0 ≤ x12_1
 rw [if_pos c1002] at H
 have c1002b0 : decide (0 ≤ x12_1) = true := decide_eq_true c1002
 clear c1002
 by_cases c1003 : x12_1 < (l0.length : Int)
 rw [if_pos c1003] at H
 have c1003b0 : decide (x12_1 < (l0.length : Int)) = true := decide_eq_true c1003
 clear c1003
 replace H := Option.bind_eq_some_iff.mp H
 obtain ⟨t189, A10040, H⟩ := H
 replace H : (if t189 = true then ((impl_showRoute.f k1 ((rd_T74 l0 x12_1).f0.f0) ((rd_T74 l0 x12_1).f0.f1) ((rd_T74 l0 x12_1).f1) ((rd_T74 l0 x12_1).f2) ((rd_T74 l0 x12_1).f3)).bind fun t190 => (if t190.size + 1 ≤ 9223372036854775807 then (if x4_1.size + (t190 ++ (⟨#[10]⟩ : ByteArray)).size ≤ 9223372036854775807 then (impl_ShowRoutes.l0 k1 (x4_1 ++ (t190 ++ (⟨#[10]⟩ : ByteArray))) l0 (l0.length : Int) (wrap64 (x12_1 + 1))) else (none)) else (none))) else (some ((⟨#[]⟩ : ByteArray), 1))) = some (r1, r2) := H
 have A1004 := Aside0.mk A10040
 clear A10040
 by_cases c1005 : t189 = true
 subst c1005
 have H1 : ((impl_showRoute.f k1 ((rd_T74 l0 x12_1).f0.f0) ((rd_T74 l0 x12_1).f0.f1) ((rd_T74 l0 x12_1).f1) ((rd_T74 l0 x12_1).f2) ((rd_T74 l0 x12_1).f3)).bind fun t190 => (if t190.size + 1 ≤ 9223372036854775807 then (if x4_1.size + (t190 ++ (⟨#[10]⟩ : ByteArray)).size ≤ 9223372036854775807 then (impl_ShowRoutes.l0 k1 (x4_1 ++ (t190 ++ (⟨#[10]⟩ : ByteArray))) l0 (l0.length : Int) (wrap64 (x12_1 + 1))) else (none)) else (none))) = some (r1, r2) := by rw [if_pos rfl] at H; exact H
 clear H
 have H := H1
 clear H1
 replace H := Option.bind_eq_some_iff.mp H
 obtain ⟨t190, A10060, H⟩ := H
 replace H : (if t190.size + 1 ≤ 9223372036854775807 then (if x4_1.size + (t190 ++ (⟨#[10]⟩ : ByteArray)).size ≤ 9223372036854775807 then (impl_ShowRoutes.l0 k1 (x4_1 ++ (t190 ++ (⟨#[10]⟩ : ByteArray))) l0 (l0.length : Int) (wrap64 (x12_1 + 1))) else (none)) else (none)) = some (r1, r2) := H
 have A1006 := Aside0.mk A10060
 clear A10060
 by_cases c1007 : t190.size + 1 ≤ 9223372036854775807
 rw [if_pos c1007] at H
 have c1007b0 := eq_true c1007
 have c1007b1 : decide (t190.size + 1 ≤ 9223372036854775807) = true := decide_eq_true c1007
 try have c1007b2 : (9223372036854775807 < t190.size + 1) = False := eq_false (Nat.not_lt.2 c1007)
 by_cases c1008 : x4_1.size + (t190 ++ (⟨#[10]⟩ : ByteArray)).size ≤ 9223372036854775807
 rw [if_pos c1008] at H
 have c1008b0 := eq_true c1008
 have c1008b1 : decide (x4_1.size + (t190 ++ (⟨#[10]⟩ : ByteArray)).size ≤ 9223372036854775807) = true := decide_eq_true c1008
 try have c1008b2 : (9223372036854775807 < x4_1.size + (t190 ++ (⟨#[10]⟩ : ByteArray)).size) = False := eq_false (Nat.not_lt.2 c1008)
 (try (have c1008b5 := c1008b2; simp only [ByteArray.size_append, show (⟨#[10]⟩ : ByteArray).size = 1 from rfl] at c1008b5))
 have H' := Aside0.mk H
 clear H
 have bq1_ : True := trivial
 rotate_left
 rw [if_neg c1008] at H
 exact absurd H (by simp)
 rw [if_neg c1007] at H
 exact absurd H (by simp)
 replace c1005 := Bool.eq_false_iff.mpr c1005
 subst c1005
 have H1 : (some ((⟨#[]⟩ : ByteArray), 1)) = some (r1, r2) := by rw [if_neg (show ¬ (false = true) by decide)] at H; exact H
 clear H
 have H := H1
 clear H1
 simp only [Option.some.injEq, Prod.mk.injEq] at H
 obtain ⟨rfl, rfl⟩ := H
 rotate_left
 rw [if_neg c1003] at H
 exact absurd H (by simp)
 rw [if_neg c1002] at H
 exact absurd H (by simp)
 rw [if_neg c1001] at H
 have c1001b0 : decide (x12_1 < (l0.length : Int)) = false := decide_eq_false c1001
 clear c1001
 simp only [Option.some.injEq, Prod.mk.injEq] at H
 obtain ⟨rfl, rfl⟩ := H
 rotate_left
 iterate 2 (
 focus (
 have p187 : 0 ≤ (x12_1 : Int) := of_decide_eq_true (by first | (with_reducible assumption) | assumption)
 have q187 : x12_1 < (l0.length : Int) := of_decide_eq_true (by first | (with_reducible assumption) | assumption)
 obtain ⟨ad187, e187, hx187_0, hx187_1, hx187_2, hx187_3, hx187_4⟩ := at_T74 HR0.out x12_1 p187 q187
 cases e187
 replace hx187_0 := (HB.out.cell (World.block_lt_of_cell? w _ hx187_0)).trans hx187_0
 replace hx187_1 := (HB.out.cell (World.block_lt_of_cell? w _ hx187_1)).trans hx187_1
 replace hx187_2 := (HB.out.cell (World.block_lt_of_cell? w _ hx187_2)).trans hx187_2
 replace hx187_3 := (HB.out.cell (World.block_lt_of_cell? w _ hx187_3)).trans hx187_3
 replace hx187_4 := (HB.out.cell (World.block_lt_of_cell? w _ hx187_4)).trans hx187_4
 replace p187 := eq_true p187
 replace q187 := eq_true q187
 )
 rotate_left
 )
 rotate_right 2
 {
 go_wp2_with (first | ((with_reducible refine gate_dst (N := 6) rfl ?_); refine box_event ?hg (N := 6) ?hd (cs := #[.int .i64 0, .int .i64 0, .int .i64 0, .int .i64 0, .int .i64 0]) (t := 74) ?hr ?_; (case hd => rfl); (case hg => rfl); (case hr => first | (go_simp; done) | (go_simp; rfl)); intro gb188 hg w2001 hbox hb; have n0_ := Aside0.mk (below_step wB hb); have n1_ := Aside0.mk (hbox); have n2_ := Aside0.mk ((by rw [hg]; exact (below_size wB) : w.heap.size ≤ gb188)); have n3_ := Aside0.mk ((by rw [hg]; exact (below_size wB) : w.heap.size ≤ gb188)); clear HB; have HB := n0_; have BK188 := n1_; have GW188 := n2_; have GE188 := n3_; clear n0_ n1_ n2_ n3_; clear hb hbox hg; obtain ⟨⟨hcz2002_0, hcz2002_1, hcz2002_2, hcz2002_3, hcz2002_4⟩, hfz2002_0, hfz2002_1, hfz2002_2, hfz2002_3, hfz2002_4⟩ := cells5 BK188.out) | ((with_reducible refine gate_store (t := 74) (p := 6) rfl ?_); refine store_event (t := 74) (p := 6) (v := ?_) (w1 := (((((w2001.setCell ⟨gb188, 0, none⟩ (.int .i64 ((rd_T74 l0 x12_1).f0.f0))).setCell ⟨gb188, 1, none⟩ (.int .i64 ((rd_T74 l0 x12_1).f0.f1))).setCell ⟨gb188, 2, none⟩ (.int .i64 ((rd_T74 l0 x12_1).f1))).setCell ⟨gb188, 3, none⟩ (.int .i64 ((rd_T74 l0 x12_1).f2))).setCell ⟨gb188, 4, none⟩ (.int .i64 ((rd_T74 l0 x12_1).f3)))) ?hg ?ho ?hn ?hr ?_; (case ho => rfl); (case hg => rfl); (case hn => rfl); (case hr => first | (go_simp; done) | (go_simp; rfl)); intro w2003 hw; have n0_ : Aside0 (w2003.heap[gb188]? = some (.cells #[.int .i64 ((rd_T74 l0 x12_1).f0.f0), .int .i64 ((rd_T74 l0 x12_1).f0.f1), .int .i64 ((rd_T74 l0 x12_1).f1), .int .i64 ((rd_T74 l0 x12_1).f2), .int .i64 ((rd_T74 l0 x12_1).f3)] 74 (0, 0))) := ⟨(by rw [hw]; exact (by (with_reducible repeat (first | refine blk_drewN ?_ _ | refine blk_drew ?_ | refine blk_alloc ?_ _)); refine blk_put (cs := #[.int .i64 ((rd_T74 l0 x12_1).f0.f0), .int .i64 ((rd_T74 l0 x12_1).f0.f1), .int .i64 ((rd_T74 l0 x12_1).f1), .int .i64 ((rd_T74 l0 x12_1).f2), .int .i64 0]) ?_ 4 _ rfl; (with_reducible repeat (first | refine blk_drewN ?_ _ | refine blk_drew ?_ | refine blk_alloc ?_ _)); refine blk_put (cs := #[.int .i64 ((rd_T74 l0 x12_1).f0.f0), .int .i64 ((rd_T74 l0 x12_1).f0.f1), .int .i64 ((rd_T74 l0 x12_1).f1), .int .i64 0, .int .i64 0]) ?_ 3 _ rfl; (with_reducible repeat (first | refine blk_drewN ?_ _ | refine blk_drew ?_ | refine blk_alloc ?_ _)); refine blk_put (cs := #[.int .i64 ((rd_T74 l0 x12_1).f0.f0), .int .i64 ((rd_T74 l0 x12_1).f0.f1), .int .i64 0, .int .i64 0, .int .i64 0]) ?_ 2 _ rfl; (with_reducible repeat (first | refine blk_drewN ?_ _ | refine blk_drew ?_ | refine blk_alloc ?_ _)); refine blk_put (cs := #[.int .i64 ((rd_T74 l0 x12_1).f0.f0), .int .i64 0, .int .i64 0, .int .i64 0, .int .i64 0]) ?_ 1 _ rfl; (with_reducible repeat (first | refine blk_drewN ?_ _ | refine blk_drew ?_ | refine blk_alloc ?_ _)); refine blk_put (cs := #[.int .i64 0, .int .i64 0, .int .i64 0, .int .i64 0, .int .i64 0]) ?_ 0 _ rfl; (with_reducible repeat (first | refine blk_drewN ?_ _ | refine blk_drew ?_ | refine blk_alloc ?_ _)); exact BK188.out))⟩; have n1_ : Aside0 (Below w.heap.size w w2003) := ⟨(by rw [hw]; exact wB)⟩; clear hw; clear BK188; clear HB; have BK188 := n0_; have HB := n1_; clear n0_ n1_; obtain ⟨⟨hcz2004_0, hcz2004_1, hcz2004_2, hcz2004_3, hcz2004_4⟩, hfz2004_0, hfz2004_1, hfz2004_2, hfz2004_3, hfz2004_4⟩ := cells5 BK188.out) | ((with_reducible refine gate_callee (f := 54) rfl ?_); refine goesL_ (some 17) rfl rfl Tryd.func54 (by kernel_rfl) rfl #[.agg #[.int .i64 ((rd_T74 l0 x12_1).f0.f0), .int .i64 ((rd_T74 l0 x12_1).f0.f1), .int .i64 ((rd_T74 l0 x12_1).f1), .int .i64 ((rd_T74 l0 x12_1).f2), .int .i64 ((rd_T74 l0 x12_1).f3)]] rfl wT ?_; (with_reducible refine (impl_okRoute.calls ((rd_T74 l0 x12_1).f0.f0) ((rd_T74 l0 x12_1).f0.f1) ((rd_T74 l0 x12_1).f1) ((rd_T74 l0 x12_1).f2) ((rd_T74 l0 x12_1).f3) true _ A1004.out).mono ?_); rintro e w2005 ⟨rfl, hb⟩; refine ⟨_, rfl, ?_⟩; have n0_ := Aside0.mk (blk_below (Bh BK188) hb); have n1_ := Aside0.mk (below_step wB hb); clear BK188; clear HB; have BK188 := n0_; have HB := n1_; clear n0_ n1_; (try clear hb); (try clear hb2); (try clear hk); (try clear hi); obtain ⟨⟨hcz2006_0, hcz2006_1, hcz2006_2, hcz2006_3, hcz2006_4⟩, hfz2006_0, hfz2006_1, hfz2006_2, hfz2006_3, hfz2006_4⟩ := cells5 BK188.out) | ((with_reducible refine gate_callee (f := 55) rfl ?_); refine goesL_ (some 21) rfl rfl Tryd.func55 (by kernel_rfl) rfl #[.agg #[.int .i64 ((rd_T74 l0 x12_1).f0.f0), .int .i64 ((rd_T74 l0 x12_1).f0.f1), .int .i64 ((rd_T74 l0 x12_1).f1), .int .i64 ((rd_T74 l0 x12_1).f2), .int .i64 ((rd_T74 l0 x12_1).f3)]] rfl wT ?_; (with_reducible refine (impl_showRoute.calls k1 ((rd_T74 l0 x12_1).f0.f0) ((rd_T74 l0 x12_1).f0.f1) ((rd_T74 l0 x12_1).f1) ((rd_T74 l0 x12_1).f2) ((rd_T74 l0 x12_1).f3) t190 _ ?side1 A1006.out).mono ?_); (case side1 => repeat (first | exact (Door.c_below HD.out HB.out) | (with_reducible refine Door.c_alloc ?_ _) | (with_reducible refine Door.c_drewN ?_ _) | (with_reducible refine Door.c_drew ?_))); rintro e w2007 ⟨rfl, hb⟩; refine ⟨_, rfl, ?_⟩; have n0_ := Aside0.mk (blk_below (Bh BK188) hb); have n1_ := Aside0.mk (below_step wB hb); clear BK188; clear HB; have BK188 := n0_; have HB := n1_; clear n0_ n1_; (try clear hb); (try clear hb2); (try clear hk); (try clear hi)))
 go_roundg k1
 case measure => have := HK1.out; omega
 case rel => exact ⟨(x4_1 ++ (t190 ++ (⟨#[10]⟩ : ByteArray))), (wrap64 (x12_1 + 1)), (by first | rfl | (simp; done) | (simp [*]; done)), (by first | rfl | (simp; done) | (simp [*]; done)), H', ⟨by have := HK1.out; omega⟩, ⟨wB⟩⟩
 }
 {
 go_wp2_with (first | ((with_reducible refine gate_dst (N := 6) rfl ?_); refine box_event ?hg (N := 6) ?hd (cs := #[.int .i64 0, .int .i64 0, .int .i64 0, .int .i64 0, .int .i64 0]) (t := 74) ?hr ?_; (case hd => rfl); (case hg => rfl); (case hr => first | (go_simp; done) | (go_simp; rfl)); intro gb188 hg w2001 hbox hb; have n0_ := Aside0.mk (below_step wB hb); have n1_ := Aside0.mk (hbox); have n2_ := Aside0.mk ((by rw [hg]; exact (below_size wB) : w.heap.size ≤ gb188)); have n3_ := Aside0.mk ((by rw [hg]; exact (below_size wB) : w.heap.size ≤ gb188)); clear HB; have HB := n0_; have BK188 := n1_; have GW188 := n2_; have GE188 := n3_; clear n0_ n1_ n2_ n3_; clear hb hbox hg; obtain ⟨⟨hcz2002_0, hcz2002_1, hcz2002_2, hcz2002_3, hcz2002_4⟩, hfz2002_0, hfz2002_1, hfz2002_2, hfz2002_3, hfz2002_4⟩ := cells5 BK188.out) | ((with_reducible refine gate_store (t := 74) (p := 6) rfl ?_); refine store_event (t := 74) (p := 6) (v := ?_) (w1 := (((((w2001.setCell ⟨gb188, 0, none⟩ (.int .i64 ((rd_T74 l0 x12_1).f0.f0))).setCell ⟨gb188, 1, none⟩ (.int .i64 ((rd_T74 l0 x12_1).f0.f1))).setCell ⟨gb188, 2, none⟩ (.int .i64 ((rd_T74 l0 x12_1).f1))).setCell ⟨gb188, 3, none⟩ (.int .i64 ((rd_T74 l0 x12_1).f2))).setCell ⟨gb188, 4, none⟩ (.int .i64 ((rd_T74 l0 x12_1).f3)))) ?hg ?ho ?hn ?hr ?_; (case ho => rfl); (case hg => rfl); (case hn => rfl); (case hr => first | (go_simp; done) | (go_simp; rfl)); intro w2003 hw; have n0_ : Aside0 (w2003.heap[gb188]? = some (.cells #[.int .i64 ((rd_T74 l0 x12_1).f0.f0), .int .i64 ((rd_T74 l0 x12_1).f0.f1), .int .i64 ((rd_T74 l0 x12_1).f1), .int .i64 ((rd_T74 l0 x12_1).f2), .int .i64 ((rd_T74 l0 x12_1).f3)] 74 (0, 0))) := ⟨(by rw [hw]; exact (by (with_reducible repeat (first | refine blk_drewN ?_ _ | refine blk_drew ?_ | refine blk_alloc ?_ _)); refine blk_put (cs := #[.int .i64 ((rd_T74 l0 x12_1).f0.f0), .int .i64 ((rd_T74 l0 x12_1).f0.f1), .int .i64 ((rd_T74 l0 x12_1).f1), .int .i64 ((rd_T74 l0 x12_1).f2), .int .i64 0]) ?_ 4 _ rfl; (with_reducible repeat (first | refine blk_drewN ?_ _ | refine blk_drew ?_ | refine blk_alloc ?_ _)); refine blk_put (cs := #[.int .i64 ((rd_T74 l0 x12_1).f0.f0), .int .i64 ((rd_T74 l0 x12_1).f0.f1), .int .i64 ((rd_T74 l0 x12_1).f1), .int .i64 0, .int .i64 0]) ?_ 3 _ rfl; (with_reducible repeat (first | refine blk_drewN ?_ _ | refine blk_drew ?_ | refine blk_alloc ?_ _)); refine blk_put (cs := #[.int .i64 ((rd_T74 l0 x12_1).f0.f0), .int .i64 ((rd_T74 l0 x12_1).f0.f1), .int .i64 0, .int .i64 0, .int .i64 0]) ?_ 2 _ rfl; (with_reducible repeat (first | refine blk_drewN ?_ _ | refine blk_drew ?_ | refine blk_alloc ?_ _)); refine blk_put (cs := #[.int .i64 ((rd_T74 l0 x12_1).f0.f0), .int .i64 0, .int .i64 0, .int .i64 0, .int .i64 0]) ?_ 1 _ rfl; (with_reducible repeat (first | refine blk_drewN ?_ _ | refine blk_drew ?_ | refine blk_alloc ?_ _)); refine blk_put (cs := #[.int .i64 0, .int .i64 0, .int .i64 0, .int .i64 0, .int .i64 0]) ?_ 0 _ rfl; (with_reducible repeat (first | refine blk_drewN ?_ _ | refine blk_drew ?_ | refine blk_alloc ?_ _)); exact BK188.out))⟩; have n1_ : Aside0 (Below w.heap.size w w2003) := ⟨(by rw [hw]; exact wB)⟩; clear hw; clear BK188; clear HB; have BK188 := n0_; have HB := n1_; clear n0_ n1_; obtain ⟨⟨hcz2004_0, hcz2004_1, hcz2004_2, hcz2004_3, hcz2004_4⟩, hfz2004_0, hfz2004_1, hfz2004_2, hfz2004_3, hfz2004_4⟩ := cells5 BK188.out) | ((with_reducible refine gate_callee (f := 54) rfl ?_); refine goesL_ (some 17) rfl rfl Tryd.func54 (by kernel_rfl) rfl #[.agg #[.int .i64 ((rd_T74 l0 x12_1).f0.f0), .int .i64 ((rd_T74 l0 x12_1).f0.f1), .int .i64 ((rd_T74 l0 x12_1).f1), .int .i64 ((rd_T74 l0 x12_1).f2), .int .i64 ((rd_T74 l0 x12_1).f3)]] rfl wT ?_; (with_reducible refine (impl_okRoute.calls ((rd_T74 l0 x12_1).f0.f0) ((rd_T74 l0 x12_1).f0.f1) ((rd_T74 l0 x12_1).f1) ((rd_T74 l0 x12_1).f2) ((rd_T74 l0 x12_1).f3) false _ A1004.out).mono ?_); rintro e w2005 ⟨rfl, hb⟩; refine ⟨_, rfl, ?_⟩; have n0_ := Aside0.mk (blk_below (Bh BK188) hb); have n1_ := Aside0.mk (below_step wB hb); clear BK188; clear HB; have BK188 := n0_; have HB := n1_; clear n0_ n1_; (try clear hb); (try clear hb2); (try clear hk); (try clear hi)))
 go_ret2
 exact ⟨by first | rfl | (simp [errW_none, errW_some] <;> rfl) | (simp [*, errW_none, errW_some] <;> rfl), wB⟩
 }
 {
 go_wp2
 go_ret2
 exact ⟨by first | rfl | (simp [errW_none, errW_some] <;> rfl) | (simp [*, errW_none, errW_some] <;> rfl), wB⟩
 }
 }
 )
 }

/-! ### laws_eqPrefix: function 27 -/
def laws_eqPrefix.f (a0_0 : Int) (a0_1 : Int) (a1_0 : Int) (a1_1 : Int) : Option (Bool) := if a0_0 = a1_0 then (if a0_1 = a1_1 then (some true) else (some false)) else (some false)
set_option maxHeartbeats 60000000 in
set_option maxRecDepth 100000 in
theorem laws_eqPrefix.calls (a0_0 : Int) (a0_1 : Int) (a1_0 : Int) (a1_1 : Int) (r : Bool) (w : World) (h : laws_eqPrefix.f a0_0 a0_1 a1_0 a1_1 = some r) :
    Calls Tryd.prog 27 #[.agg #[.int .i64 a0_0, .int .i64 a0_1], .agg #[.int .i64 a1_0, .int .i64 a1_1]] w fun e w' => e = .returned (.bool r) ∧ Below w.heap.size w w' := by
  have hu36 := Tryd.underlying36
  have HB := Aside0.mk (Below.refl w.heap.size w)
  have H : (if a0_0 = a1_0 then (if a0_1 = a1_1 then (some true) else (some false)) else (some false)) = some r := h
  clear h
  by_cases c3 : a0_0 = a1_0
  · rw [if_pos c3] at H
    have c3b0 : (a0_0 == a1_0) = true := beq_iff_eq.mpr c3
    have c3b1 : (a0_0 != a1_0) = false := bne_eq_false_iff_eq.mpr c3
    clear c3
    by_cases c4 : a0_1 = a1_1
    · rw [if_pos c4] at H
      have c4b0 : (a0_1 == a1_1) = true := beq_iff_eq.mpr c4
      have c4b1 : (a0_1 != a1_1) = false := bne_eq_false_iff_eq.mpr c4
      clear c4
      obtain rfl := Option.some.inj H
      go_enter Tryd.func27, Tryd.ntmps27
      go_wp2_with (first | ((with_reducible refine gate_dst (N := 2) rfl ?_); refine box_event ?hg (N := 2) ?hd (cs := #[.int .i64 a0_0, .int .i64 a0_1]) (t := 36) ?hr ?_; (case hd => rfl); (case hg => rfl); (case hr => first | (go_simp; done) | (go_simp; rfl)); intro gb191 hg w1001 hbox hb; have n0_ := Aside0.mk (below_step wB hb); have n1_ := Aside0.mk (hbox); have n2_ := Aside0.mk ((by rw [hg]; exact (below_size wB) : w.heap.size ≤ gb191)); have n3_ := Aside0.mk ((by rw [hg]; exact (below_size wB) : w.heap.size ≤ gb191)); clear HB; have HB := n0_; have BK191 := n1_; have GW191 := n2_; have GE191 := n3_; clear n0_ n1_ n2_ n3_; clear hb hbox hg) | ((with_reducible refine gate_dst (N := 3) rfl ?_); refine box_event ?hg (N := 3) ?hd (cs := #[.int .i64 a1_0, .int .i64 a1_1]) (t := 36) ?hr ?_; (case hd => rfl); (case hg => rfl); (case hr => first | (go_simp; done) | (go_simp; rfl)); intro gb192 hg w1002 hbox hb; have n0_ := Aside0.mk (blk_below (Bh BK191) hb); have n1_ := Aside0.mk (below_step wB hb); have n2_ := Aside0.mk (hbox); have n3_ := Aside0.mk ((by rw [hg]; exact (below_size wB) : w.heap.size ≤ gb192)); have n4_ := Aside0.mk ((by rw [hg]; exact (below_size wB) : w.heap.size ≤ gb192)); have n5_ := Aside0.mk ((by rw [hg]; exact Nat.ne_of_lt (blk_lt (Bh BK191)) : gb191 ≠ gb192)); have n6_ := Aside0.mk ((by rw [hg]; exact Nat.ne_of_gt (blk_lt (Bh BK191)) : gb192 ≠ gb191)); clear BK191; clear HB; have BK191 := n0_; have HB := n1_; have BK192 := n2_; have GW192 := n3_; have GE192 := n4_; have NB191_192 := n5_; have NB192_191 := n6_; clear n0_ n1_ n2_ n3_ n4_ n5_ n6_; clear hb hbox hg; have hnb1003 := NB191_192.out; have hnc1003 := NB192_191.out; obtain ⟨⟨hcz1004_0, hcz1004_1⟩, hfz1004_0, hfz1004_1⟩ := cells2 BK191.out; obtain ⟨⟨hcz1005_0, hcz1005_1⟩, hfz1005_0, hfz1005_1⟩ := cells2 BK192.out))
      go_ret
      exact ⟨by first | rfl | (simp [errW_none, errW_some] <;> rfl) | (simp [*, errW_none, errW_some] <;> rfl), wB⟩
    · rw [if_neg c4] at H
      have c4b0 : (a0_1 == a1_1) = false := beq_eq_false_iff_ne.mpr c4
      have c4b1 : (a0_1 != a1_1) = true := bne_iff_ne.mpr c4
      obtain rfl := Option.some.inj H
      go_enter Tryd.func27, Tryd.ntmps27
      go_wp2_with (first | ((with_reducible refine gate_dst (N := 2) rfl ?_); refine box_event ?hg (N := 2) ?hd (cs := #[.int .i64 a0_0, .int .i64 a0_1]) (t := 36) ?hr ?_; (case hd => rfl); (case hg => rfl); (case hr => first | (go_simp; done) | (go_simp; rfl)); intro gb191 hg w1001 hbox hb; have n0_ := Aside0.mk (below_step wB hb); have n1_ := Aside0.mk (hbox); have n2_ := Aside0.mk ((by rw [hg]; exact (below_size wB) : w.heap.size ≤ gb191)); have n3_ := Aside0.mk ((by rw [hg]; exact (below_size wB) : w.heap.size ≤ gb191)); clear HB; have HB := n0_; have BK191 := n1_; have GW191 := n2_; have GE191 := n3_; clear n0_ n1_ n2_ n3_; clear hb hbox hg) | ((with_reducible refine gate_dst (N := 3) rfl ?_); refine box_event ?hg (N := 3) ?hd (cs := #[.int .i64 a1_0, .int .i64 a1_1]) (t := 36) ?hr ?_; (case hd => rfl); (case hg => rfl); (case hr => first | (go_simp; done) | (go_simp; rfl)); intro gb192 hg w1002 hbox hb; have n0_ := Aside0.mk (blk_below (Bh BK191) hb); have n1_ := Aside0.mk (below_step wB hb); have n2_ := Aside0.mk (hbox); have n3_ := Aside0.mk ((by rw [hg]; exact (below_size wB) : w.heap.size ≤ gb192)); have n4_ := Aside0.mk ((by rw [hg]; exact (below_size wB) : w.heap.size ≤ gb192)); have n5_ := Aside0.mk ((by rw [hg]; exact Nat.ne_of_lt (blk_lt (Bh BK191)) : gb191 ≠ gb192)); have n6_ := Aside0.mk ((by rw [hg]; exact Nat.ne_of_gt (blk_lt (Bh BK191)) : gb192 ≠ gb191)); clear BK191; clear HB; have BK191 := n0_; have HB := n1_; have BK192 := n2_; have GW192 := n3_; have GE192 := n4_; have NB191_192 := n5_; have NB192_191 := n6_; clear n0_ n1_ n2_ n3_ n4_ n5_ n6_; clear hb hbox hg; have hnb1003 := NB191_192.out; have hnc1003 := NB192_191.out; obtain ⟨⟨hcz1004_0, hcz1004_1⟩, hfz1004_0, hfz1004_1⟩ := cells2 BK191.out; obtain ⟨⟨hcz1005_0, hcz1005_1⟩, hfz1005_0, hfz1005_1⟩ := cells2 BK192.out))
      go_ret
      exact ⟨by first | rfl | (simp [errW_none, errW_some] <;> rfl) | (simp [*, errW_none, errW_some] <;> rfl), wB⟩
  · rw [if_neg c3] at H
    have c3b0 : (a0_0 == a1_0) = false := beq_eq_false_iff_ne.mpr c3
    have c3b1 : (a0_0 != a1_0) = true := bne_iff_ne.mpr c3
    obtain rfl := Option.some.inj H
    go_enter Tryd.func27, Tryd.ntmps27
    go_wp2_with (first | ((with_reducible refine gate_dst (N := 2) rfl ?_); refine box_event ?hg (N := 2) ?hd (cs := #[.int .i64 a0_0, .int .i64 a0_1]) (t := 36) ?hr ?_; (case hd => rfl); (case hg => rfl); (case hr => first | (go_simp; done) | (go_simp; rfl)); intro gb191 hg w1001 hbox hb; have n0_ := Aside0.mk (below_step wB hb); have n1_ := Aside0.mk (hbox); have n2_ := Aside0.mk ((by rw [hg]; exact (below_size wB) : w.heap.size ≤ gb191)); have n3_ := Aside0.mk ((by rw [hg]; exact (below_size wB) : w.heap.size ≤ gb191)); clear HB; have HB := n0_; have BK191 := n1_; have GW191 := n2_; have GE191 := n3_; clear n0_ n1_ n2_ n3_; clear hb hbox hg) | ((with_reducible refine gate_dst (N := 3) rfl ?_); refine box_event ?hg (N := 3) ?hd (cs := #[.int .i64 a1_0, .int .i64 a1_1]) (t := 36) ?hr ?_; (case hd => rfl); (case hg => rfl); (case hr => first | (go_simp; done) | (go_simp; rfl)); intro gb192 hg w1002 hbox hb; have n0_ := Aside0.mk (blk_below (Bh BK191) hb); have n1_ := Aside0.mk (below_step wB hb); have n2_ := Aside0.mk (hbox); have n3_ := Aside0.mk ((by rw [hg]; exact (below_size wB) : w.heap.size ≤ gb192)); have n4_ := Aside0.mk ((by rw [hg]; exact (below_size wB) : w.heap.size ≤ gb192)); have n5_ := Aside0.mk ((by rw [hg]; exact Nat.ne_of_lt (blk_lt (Bh BK191)) : gb191 ≠ gb192)); have n6_ := Aside0.mk ((by rw [hg]; exact Nat.ne_of_gt (blk_lt (Bh BK191)) : gb192 ≠ gb191)); clear BK191; clear HB; have BK191 := n0_; have HB := n1_; have BK192 := n2_; have GW192 := n3_; have GE192 := n4_; have NB191_192 := n5_; have NB192_191 := n6_; clear n0_ n1_ n2_ n3_ n4_ n5_ n6_; clear hb hbox hg; have hnb1003 := NB191_192.out; have hnc1003 := NB192_191.out; obtain ⟨⟨hcz1004_0, hcz1004_1⟩, hfz1004_0, hfz1004_1⟩ := cells2 BK191.out; obtain ⟨⟨hcz1005_0, hcz1005_1⟩, hfz1005_0, hfz1005_1⟩ := cells2 BK192.out))
    go_ret
    exact ⟨by first | rfl | (simp [errW_none, errW_some] <;> rfl) | (simp [*, errW_none, errW_some] <;> rfl), wB⟩

/-! ### laws_eqRoute: function 56 -/
def laws_eqRoute.f (a0_0 : Int) (a0_1 : Int) (a0_2 : Int) (a0_3 : Int) (a0_4 : Int) (a1_0 : Int) (a1_1 : Int) (a1_2 : Int) (a1_3 : Int) (a1_4 : Int) : Option (Bool) := (laws_eqPrefix.f a0_0 a0_1 a1_0 a1_1).bind fun t195 => (if t195 = true then (if a0_2 = a1_2 then (if a0_3 = a1_3 then (if a0_4 = a1_4 then (some true) else (some false)) else (some false)) else (some false)) else (some false))
set_option maxHeartbeats 60000000 in
set_option maxRecDepth 100000 in
theorem laws_eqRoute.calls (a0_0 : Int) (a0_1 : Int) (a0_2 : Int) (a0_3 : Int) (a0_4 : Int) (a1_0 : Int) (a1_1 : Int) (a1_2 : Int) (a1_3 : Int) (a1_4 : Int) (r : Bool) (w : World) (h : laws_eqRoute.f a0_0 a0_1 a0_2 a0_3 a0_4 a1_0 a1_1 a1_2 a1_3 a1_4 = some r) :
    Calls Tryd.prog 56 #[.agg #[.int .i64 a0_0, .int .i64 a0_1, .int .i64 a0_2, .int .i64 a0_3, .int .i64 a0_4], .agg #[.int .i64 a1_0, .int .i64 a1_1, .int .i64 a1_2, .int .i64 a1_3, .int .i64 a1_4]] w fun e w' => e = .returned (.bool r) ∧ Below w.heap.size w w' := by
  have hu74 := Tryd.underlying74
  have hu36 := Tryd.underlying36
  have HB := Aside0.mk (Below.refl w.heap.size w)
  have H : ((laws_eqPrefix.f a0_0 a0_1 a1_0 a1_1).bind fun t195 => (if t195 = true then (if a0_2 = a1_2 then (if a0_3 = a1_3 then (if a0_4 = a1_4 then (some true) else (some false)) else (some false)) else (some false)) else (some false))) = some r := h
  clear h
  replace H := Option.bind_eq_some_iff.mp H
  obtain ⟨t195, A30, H⟩ := H
  replace H : (if t195 = true then (if a0_2 = a1_2 then (if a0_3 = a1_3 then (if a0_4 = a1_4 then (some true) else (some false)) else (some false)) else (some false)) else (some false)) = some r := H
  have A3 := Aside0.mk A30
  clear A30
  by_cases c4 : t195 = true
  · subst c4
    have H1 : (if a0_2 = a1_2 then (if a0_3 = a1_3 then (if a0_4 = a1_4 then (some true) else (some false)) else (some false)) else (some false)) = some r := by rw [if_pos rfl] at H; exact H
    clear H
    have H := H1
    clear H1
    by_cases c5 : a0_2 = a1_2
    · rw [if_pos c5] at H
      have c5b0 : (a0_2 == a1_2) = true := beq_iff_eq.mpr c5
      have c5b1 : (a0_2 != a1_2) = false := bne_eq_false_iff_eq.mpr c5
      clear c5
      by_cases c6 : a0_3 = a1_3
      · rw [if_pos c6] at H
        have c6b0 : (a0_3 == a1_3) = true := beq_iff_eq.mpr c6
        have c6b1 : (a0_3 != a1_3) = false := bne_eq_false_iff_eq.mpr c6
        clear c6
        by_cases c7 : a0_4 = a1_4
        · rw [if_pos c7] at H
          have c7b0 : (a0_4 == a1_4) = true := beq_iff_eq.mpr c7
          have c7b1 : (a0_4 != a1_4) = false := bne_eq_false_iff_eq.mpr c7
          clear c7
          obtain rfl := Option.some.inj H
          go_enter Tryd.func56, Tryd.ntmps56
          go_wp2_with (first | ((with_reducible refine gate_dst (N := 2) rfl ?_); refine box_event ?hg (N := 2) ?hd (cs := #[.int .i64 a0_0, .int .i64 a0_1, .int .i64 a0_2, .int .i64 a0_3, .int .i64 a0_4]) (t := 74) ?hr ?_; (case hd => rfl); (case hg => rfl); (case hr => first | (go_simp; done) | (go_simp; rfl)); intro gb193 hg w1001 hbox hb; have n0_ := Aside0.mk (below_step wB hb); have n1_ := Aside0.mk (hbox); have n2_ := Aside0.mk ((by rw [hg]; exact (below_size wB) : w.heap.size ≤ gb193)); have n3_ := Aside0.mk ((by rw [hg]; exact (below_size wB) : w.heap.size ≤ gb193)); clear HB; have HB := n0_; have BK193 := n1_; have GW193 := n2_; have GE193 := n3_; clear n0_ n1_ n2_ n3_; clear hb hbox hg) | ((with_reducible refine gate_dst (N := 3) rfl ?_); refine box_event ?hg (N := 3) ?hd (cs := #[.int .i64 a1_0, .int .i64 a1_1, .int .i64 a1_2, .int .i64 a1_3, .int .i64 a1_4]) (t := 74) ?hr ?_; (case hd => rfl); (case hg => rfl); (case hr => first | (go_simp; done) | (go_simp; rfl)); intro gb194 hg w1002 hbox hb; have n0_ := Aside0.mk (blk_below (Bh BK193) hb); have n1_ := Aside0.mk (below_step wB hb); have n2_ := Aside0.mk (hbox); have n3_ := Aside0.mk ((by rw [hg]; exact (below_size wB) : w.heap.size ≤ gb194)); have n4_ := Aside0.mk ((by rw [hg]; exact (below_size wB) : w.heap.size ≤ gb194)); have n5_ := Aside0.mk ((by rw [hg]; exact Nat.ne_of_lt (blk_lt (Bh BK193)) : gb193 ≠ gb194)); have n6_ := Aside0.mk ((by rw [hg]; exact Nat.ne_of_gt (blk_lt (Bh BK193)) : gb194 ≠ gb193)); clear BK193; clear HB; have BK193 := n0_; have HB := n1_; have BK194 := n2_; have GW194 := n3_; have GE194 := n4_; have NB193_194 := n5_; have NB194_193 := n6_; clear n0_ n1_ n2_ n3_ n4_ n5_ n6_; clear hb hbox hg; have hnb1003 := NB193_194.out; have hnc1003 := NB194_193.out; obtain ⟨⟨hcz1004_0, hcz1004_1, hcz1004_2, hcz1004_3, hcz1004_4⟩, hfz1004_0, hfz1004_1, hfz1004_2, hfz1004_3, hfz1004_4⟩ := cells5 BK193.out; obtain ⟨⟨hcz1005_0, hcz1005_1, hcz1005_2, hcz1005_3, hcz1005_4⟩, hfz1005_0, hfz1005_1, hfz1005_2, hfz1005_3, hfz1005_4⟩ := cells5 BK194.out) | ((with_reducible refine gate_callee (f := 27) rfl ?_); refine goesL_ (some 9) rfl rfl Tryd.func27 (by kernel_rfl) rfl #[.agg #[.int .i64 a0_0, .int .i64 a0_1], .agg #[.int .i64 a1_0, .int .i64 a1_1]] rfl wT ?_; (with_reducible refine (laws_eqPrefix.calls a0_0 a0_1 a1_0 a1_1 true _ A3.out).mono ?_); rintro e w1006 ⟨rfl, hb⟩; refine ⟨_, rfl, ?_⟩; have n0_ := Aside0.mk (blk_below (Bh BK193) hb); have n1_ := Aside0.mk (blk_below (Bh BK194) hb); have n2_ := Aside0.mk (below_step wB hb); clear BK193; clear BK194; clear HB; have BK193 := n0_; have BK194 := n1_; have HB := n2_; clear n0_ n1_ n2_; (try clear hb); (try clear hb2); (try clear hk); (try clear hi); obtain ⟨⟨hcz1007_0, hcz1007_1, hcz1007_2, hcz1007_3, hcz1007_4⟩, hfz1007_0, hfz1007_1, hfz1007_2, hfz1007_3, hfz1007_4⟩ := cells5 BK193.out; obtain ⟨⟨hcz1008_0, hcz1008_1, hcz1008_2, hcz1008_3, hcz1008_4⟩, hfz1008_0, hfz1008_1, hfz1008_2, hfz1008_3, hfz1008_4⟩ := cells5 BK194.out))
          go_ret
          exact ⟨by first | rfl | (simp [errW_none, errW_some] <;> rfl) | (simp [*, errW_none, errW_some] <;> rfl), wB⟩
        · rw [if_neg c7] at H
          have c7b0 : (a0_4 == a1_4) = false := beq_eq_false_iff_ne.mpr c7
          have c7b1 : (a0_4 != a1_4) = true := bne_iff_ne.mpr c7
          obtain rfl := Option.some.inj H
          go_enter Tryd.func56, Tryd.ntmps56
          go_wp2_with (first | ((with_reducible refine gate_dst (N := 2) rfl ?_); refine box_event ?hg (N := 2) ?hd (cs := #[.int .i64 a0_0, .int .i64 a0_1, .int .i64 a0_2, .int .i64 a0_3, .int .i64 a0_4]) (t := 74) ?hr ?_; (case hd => rfl); (case hg => rfl); (case hr => first | (go_simp; done) | (go_simp; rfl)); intro gb193 hg w1001 hbox hb; have n0_ := Aside0.mk (below_step wB hb); have n1_ := Aside0.mk (hbox); have n2_ := Aside0.mk ((by rw [hg]; exact (below_size wB) : w.heap.size ≤ gb193)); have n3_ := Aside0.mk ((by rw [hg]; exact (below_size wB) : w.heap.size ≤ gb193)); clear HB; have HB := n0_; have BK193 := n1_; have GW193 := n2_; have GE193 := n3_; clear n0_ n1_ n2_ n3_; clear hb hbox hg) | ((with_reducible refine gate_dst (N := 3) rfl ?_); refine box_event ?hg (N := 3) ?hd (cs := #[.int .i64 a1_0, .int .i64 a1_1, .int .i64 a1_2, .int .i64 a1_3, .int .i64 a1_4]) (t := 74) ?hr ?_; (case hd => rfl); (case hg => rfl); (case hr => first | (go_simp; done) | (go_simp; rfl)); intro gb194 hg w1002 hbox hb; have n0_ := Aside0.mk (blk_below (Bh BK193) hb); have n1_ := Aside0.mk (below_step wB hb); have n2_ := Aside0.mk (hbox); have n3_ := Aside0.mk ((by rw [hg]; exact (below_size wB) : w.heap.size ≤ gb194)); have n4_ := Aside0.mk ((by rw [hg]; exact (below_size wB) : w.heap.size ≤ gb194)); have n5_ := Aside0.mk ((by rw [hg]; exact Nat.ne_of_lt (blk_lt (Bh BK193)) : gb193 ≠ gb194)); have n6_ := Aside0.mk ((by rw [hg]; exact Nat.ne_of_gt (blk_lt (Bh BK193)) : gb194 ≠ gb193)); clear BK193; clear HB; have BK193 := n0_; have HB := n1_; have BK194 := n2_; have GW194 := n3_; have GE194 := n4_; have NB193_194 := n5_; have NB194_193 := n6_; clear n0_ n1_ n2_ n3_ n4_ n5_ n6_; clear hb hbox hg; have hnb1003 := NB193_194.out; have hnc1003 := NB194_193.out; obtain ⟨⟨hcz1004_0, hcz1004_1, hcz1004_2, hcz1004_3, hcz1004_4⟩, hfz1004_0, hfz1004_1, hfz1004_2, hfz1004_3, hfz1004_4⟩ := cells5 BK193.out; obtain ⟨⟨hcz1005_0, hcz1005_1, hcz1005_2, hcz1005_3, hcz1005_4⟩, hfz1005_0, hfz1005_1, hfz1005_2, hfz1005_3, hfz1005_4⟩ := cells5 BK194.out) | ((with_reducible refine gate_callee (f := 27) rfl ?_); refine goesL_ (some 9) rfl rfl Tryd.func27 (by kernel_rfl) rfl #[.agg #[.int .i64 a0_0, .int .i64 a0_1], .agg #[.int .i64 a1_0, .int .i64 a1_1]] rfl wT ?_; (with_reducible refine (laws_eqPrefix.calls a0_0 a0_1 a1_0 a1_1 true _ A3.out).mono ?_); rintro e w1006 ⟨rfl, hb⟩; refine ⟨_, rfl, ?_⟩; have n0_ := Aside0.mk (blk_below (Bh BK193) hb); have n1_ := Aside0.mk (blk_below (Bh BK194) hb); have n2_ := Aside0.mk (below_step wB hb); clear BK193; clear BK194; clear HB; have BK193 := n0_; have BK194 := n1_; have HB := n2_; clear n0_ n1_ n2_; (try clear hb); (try clear hb2); (try clear hk); (try clear hi); obtain ⟨⟨hcz1007_0, hcz1007_1, hcz1007_2, hcz1007_3, hcz1007_4⟩, hfz1007_0, hfz1007_1, hfz1007_2, hfz1007_3, hfz1007_4⟩ := cells5 BK193.out; obtain ⟨⟨hcz1008_0, hcz1008_1, hcz1008_2, hcz1008_3, hcz1008_4⟩, hfz1008_0, hfz1008_1, hfz1008_2, hfz1008_3, hfz1008_4⟩ := cells5 BK194.out))
          go_ret
          exact ⟨by first | rfl | (simp [errW_none, errW_some] <;> rfl) | (simp [*, errW_none, errW_some] <;> rfl), wB⟩
      · rw [if_neg c6] at H
        have c6b0 : (a0_3 == a1_3) = false := beq_eq_false_iff_ne.mpr c6
        have c6b1 : (a0_3 != a1_3) = true := bne_iff_ne.mpr c6
        obtain rfl := Option.some.inj H
        go_enter Tryd.func56, Tryd.ntmps56
        go_wp2_with (first | ((with_reducible refine gate_dst (N := 2) rfl ?_); refine box_event ?hg (N := 2) ?hd (cs := #[.int .i64 a0_0, .int .i64 a0_1, .int .i64 a0_2, .int .i64 a0_3, .int .i64 a0_4]) (t := 74) ?hr ?_; (case hd => rfl); (case hg => rfl); (case hr => first | (go_simp; done) | (go_simp; rfl)); intro gb193 hg w1001 hbox hb; have n0_ := Aside0.mk (below_step wB hb); have n1_ := Aside0.mk (hbox); have n2_ := Aside0.mk ((by rw [hg]; exact (below_size wB) : w.heap.size ≤ gb193)); have n3_ := Aside0.mk ((by rw [hg]; exact (below_size wB) : w.heap.size ≤ gb193)); clear HB; have HB := n0_; have BK193 := n1_; have GW193 := n2_; have GE193 := n3_; clear n0_ n1_ n2_ n3_; clear hb hbox hg) | ((with_reducible refine gate_dst (N := 3) rfl ?_); refine box_event ?hg (N := 3) ?hd (cs := #[.int .i64 a1_0, .int .i64 a1_1, .int .i64 a1_2, .int .i64 a1_3, .int .i64 a1_4]) (t := 74) ?hr ?_; (case hd => rfl); (case hg => rfl); (case hr => first | (go_simp; done) | (go_simp; rfl)); intro gb194 hg w1002 hbox hb; have n0_ := Aside0.mk (blk_below (Bh BK193) hb); have n1_ := Aside0.mk (below_step wB hb); have n2_ := Aside0.mk (hbox); have n3_ := Aside0.mk ((by rw [hg]; exact (below_size wB) : w.heap.size ≤ gb194)); have n4_ := Aside0.mk ((by rw [hg]; exact (below_size wB) : w.heap.size ≤ gb194)); have n5_ := Aside0.mk ((by rw [hg]; exact Nat.ne_of_lt (blk_lt (Bh BK193)) : gb193 ≠ gb194)); have n6_ := Aside0.mk ((by rw [hg]; exact Nat.ne_of_gt (blk_lt (Bh BK193)) : gb194 ≠ gb193)); clear BK193; clear HB; have BK193 := n0_; have HB := n1_; have BK194 := n2_; have GW194 := n3_; have GE194 := n4_; have NB193_194 := n5_; have NB194_193 := n6_; clear n0_ n1_ n2_ n3_ n4_ n5_ n6_; clear hb hbox hg; have hnb1003 := NB193_194.out; have hnc1003 := NB194_193.out; obtain ⟨⟨hcz1004_0, hcz1004_1, hcz1004_2, hcz1004_3, hcz1004_4⟩, hfz1004_0, hfz1004_1, hfz1004_2, hfz1004_3, hfz1004_4⟩ := cells5 BK193.out; obtain ⟨⟨hcz1005_0, hcz1005_1, hcz1005_2, hcz1005_3, hcz1005_4⟩, hfz1005_0, hfz1005_1, hfz1005_2, hfz1005_3, hfz1005_4⟩ := cells5 BK194.out) | ((with_reducible refine gate_callee (f := 27) rfl ?_); refine goesL_ (some 9) rfl rfl Tryd.func27 (by kernel_rfl) rfl #[.agg #[.int .i64 a0_0, .int .i64 a0_1], .agg #[.int .i64 a1_0, .int .i64 a1_1]] rfl wT ?_; (with_reducible refine (laws_eqPrefix.calls a0_0 a0_1 a1_0 a1_1 true _ A3.out).mono ?_); rintro e w1006 ⟨rfl, hb⟩; refine ⟨_, rfl, ?_⟩; have n0_ := Aside0.mk (blk_below (Bh BK193) hb); have n1_ := Aside0.mk (blk_below (Bh BK194) hb); have n2_ := Aside0.mk (below_step wB hb); clear BK193; clear BK194; clear HB; have BK193 := n0_; have BK194 := n1_; have HB := n2_; clear n0_ n1_ n2_; (try clear hb); (try clear hb2); (try clear hk); (try clear hi); obtain ⟨⟨hcz1007_0, hcz1007_1, hcz1007_2, hcz1007_3, hcz1007_4⟩, hfz1007_0, hfz1007_1, hfz1007_2, hfz1007_3, hfz1007_4⟩ := cells5 BK193.out; obtain ⟨⟨hcz1008_0, hcz1008_1, hcz1008_2, hcz1008_3, hcz1008_4⟩, hfz1008_0, hfz1008_1, hfz1008_2, hfz1008_3, hfz1008_4⟩ := cells5 BK194.out))
        go_ret
        exact ⟨by first | rfl | (simp [errW_none, errW_some] <;> rfl) | (simp [*, errW_none, errW_some] <;> rfl), wB⟩
    · rw [if_neg c5] at H
      have c5b0 : (a0_2 == a1_2) = false := beq_eq_false_iff_ne.mpr c5
      have c5b1 : (a0_2 != a1_2) = true := bne_iff_ne.mpr c5
      obtain rfl := Option.some.inj H
      go_enter Tryd.func56, Tryd.ntmps56
      go_wp2_with (first | ((with_reducible refine gate_dst (N := 2) rfl ?_); refine box_event ?hg (N := 2) ?hd (cs := #[.int .i64 a0_0, .int .i64 a0_1, .int .i64 a0_2, .int .i64 a0_3, .int .i64 a0_4]) (t := 74) ?hr ?_; (case hd => rfl); (case hg => rfl); (case hr => first | (go_simp; done) | (go_simp; rfl)); intro gb193 hg w1001 hbox hb; have n0_ := Aside0.mk (below_step wB hb); have n1_ := Aside0.mk (hbox); have n2_ := Aside0.mk ((by rw [hg]; exact (below_size wB) : w.heap.size ≤ gb193)); have n3_ := Aside0.mk ((by rw [hg]; exact (below_size wB) : w.heap.size ≤ gb193)); clear HB; have HB := n0_; have BK193 := n1_; have GW193 := n2_; have GE193 := n3_; clear n0_ n1_ n2_ n3_; clear hb hbox hg) | ((with_reducible refine gate_dst (N := 3) rfl ?_); refine box_event ?hg (N := 3) ?hd (cs := #[.int .i64 a1_0, .int .i64 a1_1, .int .i64 a1_2, .int .i64 a1_3, .int .i64 a1_4]) (t := 74) ?hr ?_; (case hd => rfl); (case hg => rfl); (case hr => first | (go_simp; done) | (go_simp; rfl)); intro gb194 hg w1002 hbox hb; have n0_ := Aside0.mk (blk_below (Bh BK193) hb); have n1_ := Aside0.mk (below_step wB hb); have n2_ := Aside0.mk (hbox); have n3_ := Aside0.mk ((by rw [hg]; exact (below_size wB) : w.heap.size ≤ gb194)); have n4_ := Aside0.mk ((by rw [hg]; exact (below_size wB) : w.heap.size ≤ gb194)); have n5_ := Aside0.mk ((by rw [hg]; exact Nat.ne_of_lt (blk_lt (Bh BK193)) : gb193 ≠ gb194)); have n6_ := Aside0.mk ((by rw [hg]; exact Nat.ne_of_gt (blk_lt (Bh BK193)) : gb194 ≠ gb193)); clear BK193; clear HB; have BK193 := n0_; have HB := n1_; have BK194 := n2_; have GW194 := n3_; have GE194 := n4_; have NB193_194 := n5_; have NB194_193 := n6_; clear n0_ n1_ n2_ n3_ n4_ n5_ n6_; clear hb hbox hg; have hnb1003 := NB193_194.out; have hnc1003 := NB194_193.out; obtain ⟨⟨hcz1004_0, hcz1004_1, hcz1004_2, hcz1004_3, hcz1004_4⟩, hfz1004_0, hfz1004_1, hfz1004_2, hfz1004_3, hfz1004_4⟩ := cells5 BK193.out; obtain ⟨⟨hcz1005_0, hcz1005_1, hcz1005_2, hcz1005_3, hcz1005_4⟩, hfz1005_0, hfz1005_1, hfz1005_2, hfz1005_3, hfz1005_4⟩ := cells5 BK194.out) | ((with_reducible refine gate_callee (f := 27) rfl ?_); refine goesL_ (some 9) rfl rfl Tryd.func27 (by kernel_rfl) rfl #[.agg #[.int .i64 a0_0, .int .i64 a0_1], .agg #[.int .i64 a1_0, .int .i64 a1_1]] rfl wT ?_; (with_reducible refine (laws_eqPrefix.calls a0_0 a0_1 a1_0 a1_1 true _ A3.out).mono ?_); rintro e w1006 ⟨rfl, hb⟩; refine ⟨_, rfl, ?_⟩; have n0_ := Aside0.mk (blk_below (Bh BK193) hb); have n1_ := Aside0.mk (blk_below (Bh BK194) hb); have n2_ := Aside0.mk (below_step wB hb); clear BK193; clear BK194; clear HB; have BK193 := n0_; have BK194 := n1_; have HB := n2_; clear n0_ n1_ n2_; (try clear hb); (try clear hb2); (try clear hk); (try clear hi); obtain ⟨⟨hcz1007_0, hcz1007_1, hcz1007_2, hcz1007_3, hcz1007_4⟩, hfz1007_0, hfz1007_1, hfz1007_2, hfz1007_3, hfz1007_4⟩ := cells5 BK193.out; obtain ⟨⟨hcz1008_0, hcz1008_1, hcz1008_2, hcz1008_3, hcz1008_4⟩, hfz1008_0, hfz1008_1, hfz1008_2, hfz1008_3, hfz1008_4⟩ := cells5 BK194.out))
      go_ret
      exact ⟨by first | rfl | (simp [errW_none, errW_some] <;> rfl) | (simp [*, errW_none, errW_some] <;> rfl), wB⟩
  · replace c4 := Bool.eq_false_iff.mpr c4
    subst c4
    have H1 : (some false) = some r := by rw [if_neg (show ¬ (false = true) by decide)] at H; exact H
    clear H
    have H := H1
    clear H1
    obtain rfl := Option.some.inj H
    go_enter Tryd.func56, Tryd.ntmps56
    go_wp2_with (first | ((with_reducible refine gate_dst (N := 2) rfl ?_); refine box_event ?hg (N := 2) ?hd (cs := #[.int .i64 a0_0, .int .i64 a0_1, .int .i64 a0_2, .int .i64 a0_3, .int .i64 a0_4]) (t := 74) ?hr ?_; (case hd => rfl); (case hg => rfl); (case hr => first | (go_simp; done) | (go_simp; rfl)); intro gb193 hg w1001 hbox hb; have n0_ := Aside0.mk (below_step wB hb); have n1_ := Aside0.mk (hbox); have n2_ := Aside0.mk ((by rw [hg]; exact (below_size wB) : w.heap.size ≤ gb193)); have n3_ := Aside0.mk ((by rw [hg]; exact (below_size wB) : w.heap.size ≤ gb193)); clear HB; have HB := n0_; have BK193 := n1_; have GW193 := n2_; have GE193 := n3_; clear n0_ n1_ n2_ n3_; clear hb hbox hg) | ((with_reducible refine gate_dst (N := 3) rfl ?_); refine box_event ?hg (N := 3) ?hd (cs := #[.int .i64 a1_0, .int .i64 a1_1, .int .i64 a1_2, .int .i64 a1_3, .int .i64 a1_4]) (t := 74) ?hr ?_; (case hd => rfl); (case hg => rfl); (case hr => first | (go_simp; done) | (go_simp; rfl)); intro gb194 hg w1002 hbox hb; have n0_ := Aside0.mk (blk_below (Bh BK193) hb); have n1_ := Aside0.mk (below_step wB hb); have n2_ := Aside0.mk (hbox); have n3_ := Aside0.mk ((by rw [hg]; exact (below_size wB) : w.heap.size ≤ gb194)); have n4_ := Aside0.mk ((by rw [hg]; exact (below_size wB) : w.heap.size ≤ gb194)); have n5_ := Aside0.mk ((by rw [hg]; exact Nat.ne_of_lt (blk_lt (Bh BK193)) : gb193 ≠ gb194)); have n6_ := Aside0.mk ((by rw [hg]; exact Nat.ne_of_gt (blk_lt (Bh BK193)) : gb194 ≠ gb193)); clear BK193; clear HB; have BK193 := n0_; have HB := n1_; have BK194 := n2_; have GW194 := n3_; have GE194 := n4_; have NB193_194 := n5_; have NB194_193 := n6_; clear n0_ n1_ n2_ n3_ n4_ n5_ n6_; clear hb hbox hg; have hnb1003 := NB193_194.out; have hnc1003 := NB194_193.out; obtain ⟨⟨hcz1004_0, hcz1004_1, hcz1004_2, hcz1004_3, hcz1004_4⟩, hfz1004_0, hfz1004_1, hfz1004_2, hfz1004_3, hfz1004_4⟩ := cells5 BK193.out; obtain ⟨⟨hcz1005_0, hcz1005_1, hcz1005_2, hcz1005_3, hcz1005_4⟩, hfz1005_0, hfz1005_1, hfz1005_2, hfz1005_3, hfz1005_4⟩ := cells5 BK194.out) | ((with_reducible refine gate_callee (f := 27) rfl ?_); refine goesL_ (some 9) rfl rfl Tryd.func27 (by kernel_rfl) rfl #[.agg #[.int .i64 a0_0, .int .i64 a0_1], .agg #[.int .i64 a1_0, .int .i64 a1_1]] rfl wT ?_; (with_reducible refine (laws_eqPrefix.calls a0_0 a0_1 a1_0 a1_1 false _ A3.out).mono ?_); rintro e w1006 ⟨rfl, hb⟩; refine ⟨_, rfl, ?_⟩; have n0_ := Aside0.mk (blk_below (Bh BK193) hb); have n1_ := Aside0.mk (blk_below (Bh BK194) hb); have n2_ := Aside0.mk (below_step wB hb); clear BK193; clear BK194; clear HB; have BK193 := n0_; have BK194 := n1_; have HB := n2_; clear n0_ n1_ n2_; (try clear hb); (try clear hb2); (try clear hk); (try clear hi)))
    go_ret
    exact ⟨by first | rfl | (simp [errW_none, errW_some] <;> rfl) | (simp [*, errW_none, errW_some] <;> rfl), wB⟩

/-! ### laws_eqRouteS: function 32 -/
def laws_eqRouteS.l0 : Nat → List (S74) → List (S74) → Int → Option (Bool)
  | 0, _, _, _ => none
  | k + 1, x0, x1, x5 => if x5 < (x0.length : Int) then (if 0 ≤ x5 then (if x5 < (x1.length : Int) then ((laws_eqRoute.f ((rd_T74 x0 x5).f0.f0) ((rd_T74 x0 x5).f0.f1) ((rd_T74 x0 x5).f1) ((rd_T74 x0 x5).f2) ((rd_T74 x0 x5).f3) ((rd_T74 x1 x5).f0.f0) ((rd_T74 x1 x5).f0.f1) ((rd_T74 x1 x5).f1) ((rd_T74 x1 x5).f2) ((rd_T74 x1 x5).f3)).bind fun t198 => (if t198 = true then (laws_eqRouteS.l0 k x0 x1 (wrap64 (x5 + 1))) else (some false))) else (none)) else (none)) else (some true)
def laws_eqRouteS.f (k : Nat) (l0 : List (S74)) (l1 : List (S74)) : Option (Bool) := if (l0.length : Int) = (l1.length : Int) then (laws_eqRouteS.l0 k l0 l1 0) else (some false)
theorem laws_eqRouteS.mono_l : ∀ k, (∀ y0 y1 y2, LeO (laws_eqRouteS.l0 k y0 y1 y2) (laws_eqRouteS.l0 (k + 1) y0 y1 y2))
  | 0 => fun _ _ _ r h => by simp [laws_eqRouteS.l0] at h
  | k + 1 => by
    have ih0 := laws_eqRouteS.mono_l k
    · intro y0 y1 y2
      unfold laws_eqRouteS.l0
      repeat' first
      | (with_reducible exact ih0 _ _ _)
      | (with_reducible exact LeO.refl _)
      | (with_reducible exact LeO.none _)
      | (with_reducible refine LeO.ite ?_ ?_)
      | (with_reducible refine LeO.bind ?_ (fun _ => ?_))
      | exact ih0 _ _ _
      | exact LeO.none _
      | refine LeO.ite ?_ ?_
      | refine LeO.bind ?_ (fun _ => ?_)
theorem laws_eqRouteS.mono : ∀ a0 a1 k, LeO (laws_eqRouteS.f k a0 a1) (laws_eqRouteS.f (k + 1) a0 a1) := by
 intro a0 a1 k
 have ih0 := laws_eqRouteS.mono_l k
 unfold laws_eqRouteS.f
 repeat' first
     | (with_reducible exact ih0 _ _ _)
     | (with_reducible exact LeO.refl _)
     | (with_reducible exact LeO.none _)
     | (with_reducible refine LeO.ite ?_ ?_)
     | (with_reducible refine LeO.bind ?_ (fun _ => ?_))
     | exact ih0 _ _ _
     | exact LeO.none _
     | refine LeO.ite ?_ ?_
     | refine LeO.bind ?_ (fun _ => ?_)
def laws_eqRouteS.T6 : Bool × List (List Nat × List Nat) := (true, [([], []), ([], []), ([0, 1], [0, 1]), ([2], [2]), ([], []), ([], []), ([4, 5], [4, 5]), ([6], [6]), ([3, 7], [3, 7]), ([8], [8])])
def laws_eqRouteS.B6 : List Nat := [0, 0, 3, 7, 0, 0, 48, 112, 255, 511]
theorem laws_eqRouteS.tab6 : rtab .any (opsOf Tryd.f32 6) = laws_eqRouteS.T6 := by kernel_rfl
theorem laws_eqRouteS.bits6 : waitsOk laws_eqRouteS.T6.2 laws_eqRouteS.B6 = true := by kernel_rfl
set_option maxHeartbeats 60000000 in
set_option maxRecDepth 100000 in
theorem laws_eqRouteS.calls (k : Nat) (A0 : Option Addr) (c0 : Nat) (l0 : List (S74)) (A1 : Option Addr) (c1 : Nat) (l1 : List (S74)) (r : Bool) (w : World) (hr0 : Kd.C k74 w A0 l0.length l0) (hc0 : l0.length ≤ c0) (hr1 : Kd.C k74 w A1 l1.length l1) (hc1 : l1.length ≤ c1) (h : laws_eqRouteS.f k l0 l1 = some r) :
 Calls Tryd.prog 32 #[.slice A0 l0.length c0, .slice A1 l1.length c1] w fun e w' => e = .returned (.bool r) ∧ Below w.heap.size w w' := by
 have hu74 := Tryd.underlying74
 have HR0 := Aside0.mk hr0
 have HC0 := Aside0.mk hc0
 clear hr0 hc0
 have HR1 := Aside0.mk hr1
 have HC1 := Aside0.mk hc1
 clear hr1 hc1
 have HB := Aside0.mk (Below.refl w.heap.size w)
 have H : (if (l0.length : Int) = (l1.length : Int) then (laws_eqRouteS.l0 k l0 l1 0) else (some false)) = some r := h
 clear h
 by_cases c3 : (l0.length : Int) = (l1.length : Int)
 {
 rw [if_pos c3] at H
 have c3b0 : ((l0.length : Int) == (l1.length : Int)) = true := beq_iff_eq.mpr c3
 have c3b1 : ((l0.length : Int) != (l1.length : Int)) = false := bne_eq_false_iff_eq.mpr c3
 have c3b2 : (l0.length == l1.length) = true := by first | simpa using c3 | (simp at c3 ⊢; omega)
 clear c3
 have H' := Aside0.mk H
 clear H
 go_enter Tryd.func32, Tryd.ntmps32
 go_wp2
 go_loopg [5] k (fun kq v5 w' => ∃ (x5_1 : Int), v5 = .int .i64 x5_1 ∧ Aside0 (laws_eqRouteS.l0 kq l0 l1 x5_1 = some r) ∧ Aside0 (kq ≤ k) ∧ Aside0 (Below w.heap.size w w'))
 case atStart => exact ⟨(0), (by first | rfl | (simp; done) | (simp [*]; done)), H', ⟨Nat.le_refl _⟩, ⟨wB⟩⟩
 case round => (
 clear H'
 try clear c3
 try clear c3b0
 try clear c3b1
 try clear c3b2
 obtain ⟨x5_1, rfl, HA, HK1, HB⟩ := hrel
 cases gk with
 | zero => exact absurd HA.out (by simp [laws_eqRouteS.l0])
 | succ k1 => {
 have H := HA.out
 clear HA
 simp only [laws_eqRouteS.l0] at H
 by_cases c1001 : x5_1 < (l0.length : Int)
 rw [if_pos c1001] at H
 have c1001b0 : decide (x5_1 < (l0.length : Int)) = true := decide_eq_true c1001
 clear c1001
 by_cases c1002 : 0 ≤ x5_1
 rw [if_pos c1002] at H
 have c1002b0 : decide (0 ≤ x5_1) = true := decide_eq_true c1002
 clear c1002
 by_cases c1003 : x5_1 < (l1.length : Int)
 rw [if_pos c1003] at H
 have c1003b0 : decide (x5_1 < (l1.length : Int)) = true := decide_eq_true c1003
 clear c1003
 replace H := Option.bind_eq_some_iff.mp H
 obtain ⟨t198, A10040, H⟩ := H
 replace H : (if t198 = true then (laws_eqRouteS.l0 k1 l0 l1 (wrap64 (x5_1 + 1))) else (some false)) = some r := H
 have A1004 := Aside0.mk A10040
 clear A10040
 by_cases c1005 : t198 = true
 subst c1005
 have H1 : (laws_eqRouteS.l0 k1 l0 l1 (wrap64 (x5_1 + 1))) = some r := by rw [if_pos rfl] at H; exact H
 clear H
 have H := H1
 clear H1
 have H' := Aside0.mk H
 clear H
 have bq1_ : True := trivial
 rotate_left
 replace c1005 := Bool.eq_false_iff.mpr c1005
 subst c1005
 have H1 : (some false) = some r := by rw [if_neg (show ¬ (false = true) by decide)] at H; exact H
 clear H
 have H := H1
 clear H1
 obtain rfl := Option.some.inj H
 rotate_left
 rw [if_neg c1003] at H
 exact absurd H (by simp)
 rw [if_neg c1002] at H
 exact absurd H (by simp)
 rw [if_neg c1001] at H
 have c1001b0 : decide (x5_1 < (l0.length : Int)) = false := decide_eq_false c1001
 clear c1001
 obtain rfl := Option.some.inj H
 rotate_left
 all_goals (
 try go_wp2
 )
 iterate 2 (
 focus (
 have n0_ := Aside0.mk (below_drew1 HB.out)
 clear HB
 have HB := n0_
 clear n0_
 have p196 : 0 ≤ (x5_1 : Int) := of_decide_eq_true (by first | (with_reducible assumption) | assumption)
 have q196 : x5_1 < (l0.length : Int) := of_decide_eq_true (by first | (with_reducible assumption) | assumption)
 obtain ⟨ad196, e196, hx196_0, hx196_1, hx196_2, hx196_3, hx196_4⟩ := at_T74 HR0.out x5_1 p196 q196
 have hw196_4 := hx196_4
 have hw196_3 := hx196_3
 have hw196_2 := hx196_2
 have hw196_1 := hx196_1
 have hw196_0 := hx196_0
 cases e196
 replace hx196_0 := (HB.out.cell (World.block_lt_of_cell? w _ hx196_0)).trans hx196_0
 replace hx196_1 := (HB.out.cell (World.block_lt_of_cell? w _ hx196_1)).trans hx196_1
 replace hx196_2 := (HB.out.cell (World.block_lt_of_cell? w _ hx196_2)).trans hx196_2
 replace hx196_3 := (HB.out.cell (World.block_lt_of_cell? w _ hx196_3)).trans hx196_3
 replace hx196_4 := (HB.out.cell (World.block_lt_of_cell? w _ hx196_4)).trans hx196_4
 replace p196 := eq_true p196
 replace q196 := eq_true q196
 have p197 : 0 ≤ (x5_1 : Int) := of_decide_eq_true (by first | (with_reducible assumption) | assumption)
 have q197 : x5_1 < (l1.length : Int) := of_decide_eq_true (by first | (with_reducible assumption) | assumption)
 obtain ⟨ad197, e197, hx197_0, hx197_1, hx197_2, hx197_3, hx197_4⟩ := at_T74 HR1.out x5_1 p197 q197
 have hw197_4 := hx197_4
 have hw197_3 := hx197_3
 have hw197_2 := hx197_2
 have hw197_1 := hx197_1
 have hw197_0 := hx197_0
 cases e197
 replace hx197_0 := (HB.out.cell (World.block_lt_of_cell? w _ hx197_0)).trans hx197_0
 replace hx197_1 := (HB.out.cell (World.block_lt_of_cell? w _ hx197_1)).trans hx197_1
 replace hx197_2 := (HB.out.cell (World.block_lt_of_cell? w _ hx197_2)).trans hx197_2
 replace hx197_3 := (HB.out.cell (World.block_lt_of_cell? w _ hx197_3)).trans hx197_3
 replace hx197_4 := (HB.out.cell (World.block_lt_of_cell? w _ hx197_4)).trans hx197_4
 replace p197 := eq_true p197
 replace q197 := eq_true q197
 refine start_ (n := 10) (S := fun w' => w'.cell? (ad196.add ((x5_1).toNat * 5)) = some (.int .i64 ((rd_T74 l0 x5_1).f0.f0)) ∧ w'.cell? ⟨(ad196.add ((x5_1).toNat * 5)).block, (ad196.add ((x5_1).toNat * 5)).off + 1, none⟩ = some (.int .i64 ((rd_T74 l0 x5_1).f0.f1)) ∧ w'.cell? ⟨(ad196.add ((x5_1).toNat * 5)).block, (ad196.add ((x5_1).toNat * 5)).off + 2, none⟩ = some (.int .i64 ((rd_T74 l0 x5_1).f1)) ∧ w'.cell? ⟨(ad196.add ((x5_1).toNat * 5)).block, (ad196.add ((x5_1).toNat * 5)).off + 3, none⟩ = some (.int .i64 ((rd_T74 l0 x5_1).f2)) ∧ w'.cell? ⟨(ad196.add ((x5_1).toNat * 5)).block, (ad196.add ((x5_1).toNat * 5)).off + 4, none⟩ = some (.int .i64 ((rd_T74 l0 x5_1).f3)) ∧ w'.cell? (ad197.add ((x5_1).toNat * 5)) = some (.int .i64 ((rd_T74 l1 x5_1).f0.f0)) ∧ w'.cell? ⟨(ad197.add ((x5_1).toNat * 5)).block, (ad197.add ((x5_1).toNat * 5)).off + 1, none⟩ = some (.int .i64 ((rd_T74 l1 x5_1).f0.f1)) ∧ w'.cell? ⟨(ad197.add ((x5_1).toNat * 5)).block, (ad197.add ((x5_1).toNat * 5)).off + 2, none⟩ = some (.int .i64 ((rd_T74 l1 x5_1).f1)) ∧ w'.cell? ⟨(ad197.add ((x5_1).toNat * 5)).block, (ad197.add ((x5_1).toNat * 5)).off + 3, none⟩ = some (.int .i64 ((rd_T74 l1 x5_1).f2)) ∧ w'.cell? ⟨(ad197.add ((x5_1).toNat * 5)).block, (ad197.add ((x5_1).toNat * 5)).off + 4, none⟩ = some (.int .i64 ((rd_T74 l1 x5_1).f3))) (ds := []) #[false, false, false, false, false, false, false, false, false, false] (by kernel_rfl) rfl rfl ⟨((HB.out.cell (World.block_lt_of_cell? w _ hw196_0)).trans hw196_0), ((HB.out.cell (World.block_lt_of_cell? w _ hw196_1)).trans hw196_1), ((HB.out.cell (World.block_lt_of_cell? w _ hw196_2)).trans hw196_2), ((HB.out.cell (World.block_lt_of_cell? w _ hw196_3)).trans hw196_3), ((HB.out.cell (World.block_lt_of_cell? w _ hw196_4)).trans hw196_4), ((HB.out.cell (World.block_lt_of_cell? w _ hw197_0)).trans hw197_0), ((HB.out.cell (World.block_lt_of_cell? w _ hw197_1)).trans hw197_1), ((HB.out.cell (World.block_lt_of_cell? w _ hw197_2)).trans hw197_2), ((HB.out.cell (World.block_lt_of_cell? w _ hw197_3)).trans hw197_3), ((HB.out.cell (World.block_lt_of_cell? w _ hw197_4)).trans hw197_4)⟩ (fun hHeld => ?_); refine with_tabW laws_eqRouteS.tab6 laws_eqRouteS.bits6 (fun HT_ HW_ => ?_)
 generalize wr.drew = w2001 at HB hx196_0 hx196_1 hx196_2 hx196_3 hx196_4 hx197_0 hx197_1 hx197_2 hx197_3 hx197_4 hHeld ⊢
 refine pure_ (i := 0) (N := some 17) (v := ?_) (a' := ?_) #[true, false, false, false, false, false, false, false, false, false] rfl rfl (any_of HT_.out (by kernel_rfl)) (fun _ _ _ h => h) (Or.inl ⟨by rfl, ?_⟩) ?_ ?_
 rotate_left
 {
 intro w'
 go_simp
 with_reducible rfl
 }
 rotate_left
 {
 simp only [Act.put, List.setIfInBounds_toArray, List.set_cons_zero, List.set_cons_succ, i64_w, i32_w]
 rfl
 }
 refine pure_ (i := 1) (N := some 18) (v := ?_) (a' := ?_) #[true, true, false, false, false, false, false, false, false, false] rfl rfl (any_of HT_.out (by kernel_rfl)) (fun _ _ _ h => h) (Or.inl ⟨by rfl, ?_⟩) ?_ ?_
 rotate_left
 {
 intro w'
 go_simp
 with_reducible rfl
 }
 rotate_left
 {
 simp only [Act.put, List.setIfInBounds_toArray, List.set_cons_zero, List.set_cons_succ, i64_w, i32_w]
 rfl
 }
 refine pure_ (i := 2) (N := some 19) (v := ?_) (a' := ?_) #[true, true, true, false, false, false, false, false, false, false] rfl rfl (any_of HT_.out (by kernel_rfl)) (fun _ _ _ h => h) (Or.inl ⟨by rfl, ?_⟩) ?_ ?_
 rotate_left
 {
 intro w'
 go_simp
 with_reducible rfl
 }
 rotate_left
 {
 simp only [Act.put, List.setIfInBounds_toArray, List.set_cons_zero, List.set_cons_succ, i64_w, i32_w]
 rfl
 }
 refine pure_ (i := 4) (N := some 21) (v := ?_) (a' := ?_) #[true, true, true, false, true, false, false, false, false, false] rfl rfl (any_of HT_.out (by kernel_rfl)) (fun _ _ _ h => h) (Or.inl ⟨by rfl, ?_⟩) ?_ ?_
 rotate_left
 {
 intro w'
 go_simp
 with_reducible rfl
 }
 rotate_left
 {
 simp only [Act.put, List.setIfInBounds_toArray, List.set_cons_zero, List.set_cons_succ, i64_w, i32_w]
 rfl
 }
 refine pure_ (i := 5) (N := some 22) (v := ?_) (a' := ?_) #[true, true, true, false, true, true, false, false, false, false] rfl rfl (any_of HT_.out (by kernel_rfl)) (fun _ _ _ h => h) (Or.inl ⟨by rfl, ?_⟩) ?_ ?_
 rotate_left
 {
 intro w'
 go_simp
 with_reducible rfl
 }
 rotate_left
 {
 simp only [Act.put, List.setIfInBounds_toArray, List.set_cons_zero, List.set_cons_succ, i64_w, i32_w]
 rfl
 }
 refine pure_ (i := 6) (N := some 23) (v := ?_) (a' := ?_) #[true, true, true, false, true, true, true, false, false, false] rfl rfl (any_of HT_.out (by kernel_rfl)) (fun _ _ _ h => h) (Or.inl ⟨by rfl, ?_⟩) ?_ ?_
 rotate_left
 {
 intro w'
 go_simp
 with_reducible rfl
 }
 rotate_left
 {
 simp only [Act.put, List.setIfInBounds_toArray, List.set_cons_zero, List.set_cons_succ, i64_w, i32_w]
 rfl
 }
 refine take_ (i := 3) (N := some 20) (v := ?_) (a' := ?_) #[true, true, true, true, true, true, true, false, false, false] rfl rfl (take_ofW HT_.out HW_.out (by kernel_rfl)) (fun _ _ _ h => h) (Or.inl ⟨by rfl, ?_⟩) hHeld ?_ ?_
 rotate_left
 {
 rintro w' ⟨s0, s1, s2, s3, s4, s5, s6, s7, s8, s9⟩
 go_simp
 with_reducible rfl
 }
 rotate_left
 {
 simp only [Act.put, List.setIfInBounds_toArray, List.set_cons_zero, List.set_cons_succ, i64_w, i32_w]
 rfl
 }
 refine take_ (i := 7) (N := some 24) (v := ?_) (a' := ?_) #[true, true, true, true, true, true, true, true, false, false] rfl rfl (take_ofW HT_.out HW_.out (by kernel_rfl)) (fun _ _ _ h => h) (Or.inl ⟨by rfl, ?_⟩) hHeld ?_ ?_
 rotate_left
 {
 rintro w' ⟨s0, s1, s2, s3, s4, s5, s6, s7, s8, s9⟩
 go_simp
 with_reducible rfl
 }
 rotate_left
 {
 simp only [Act.put, List.setIfInBounds_toArray, List.set_cons_zero, List.set_cons_succ, i64_w, i32_w]
 rfl
 }
 refine one_ (i := 8) (N := some 25) #[true, true, true, true, true, true, true, true, true, false] rfl rfl (one_of HT_.out (by kernel_rfl)) (by decide) (fun K hK => ?_)
 refine goes_ Tryd.func56 (by kernel_rfl) rfl #[.agg #[.int .i64 ((rd_T74 l0 x5_1).f0.f0), .int .i64 ((rd_T74 l0 x5_1).f0.f1), .int .i64 ((rd_T74 l0 x5_1).f1), .int .i64 ((rd_T74 l0 x5_1).f2), .int .i64 ((rd_T74 l0 x5_1).f3)], .agg #[.int .i64 ((rd_T74 l1 x5_1).f0.f0), .int .i64 ((rd_T74 l1 x5_1).f0.f1), .int .i64 ((rd_T74 l1 x5_1).f1), .int .i64 ((rd_T74 l1 x5_1).f2), .int .i64 ((rd_T74 l1 x5_1).f3)]] (by rfl) rfl rfl wT ?_
 with_reducible refine (laws_eqRoute.calls ((rd_T74 l0 x5_1).f0.f0) ((rd_T74 l0 x5_1).f0.f1) ((rd_T74 l0 x5_1).f1) ((rd_T74 l0 x5_1).f2) ((rd_T74 l0 x5_1).f3) ((rd_T74 l1 x5_1).f0.f0) ((rd_T74 l1 x5_1).f0.f1) ((rd_T74 l1 x5_1).f1) ((rd_T74 l1 x5_1).f2) ((rd_T74 l1 x5_1).f3) (by first | (clear bq1_; exact true) | exact false) _ A1004.out).mono ?_
 rintro e w2002 ⟨rfl, hb⟩
 refine ⟨_, rfl, ?_⟩
 have n0_ := Aside0.mk (below_step wB hb)
 clear HB
 have HB := n0_
 clear n0_
 (try clear hb)
 (try clear hb2)
 (try clear hk)
 (try clear hi)
 refine hK.out _ _ ⟨((HB.out.cell (World.block_lt_of_cell? w _ hw196_0)).trans hw196_0), ((HB.out.cell (World.block_lt_of_cell? w _ hw196_1)).trans hw196_1), ((HB.out.cell (World.block_lt_of_cell? w _ hw196_2)).trans hw196_2), ((HB.out.cell (World.block_lt_of_cell? w _ hw196_3)).trans hw196_3), ((HB.out.cell (World.block_lt_of_cell? w _ hw196_4)).trans hw196_4), ((HB.out.cell (World.block_lt_of_cell? w _ hw197_0)).trans hw197_0), ((HB.out.cell (World.block_lt_of_cell? w _ hw197_1)).trans hw197_1), ((HB.out.cell (World.block_lt_of_cell? w _ hw197_2)).trans hw197_2), ((HB.out.cell (World.block_lt_of_cell? w _ hw197_3)).trans hw197_3), ((HB.out.cell (World.block_lt_of_cell? w _ hw197_4)).trans hw197_4)⟩ (fun hHeld => ?_)
 clear hK K
 refine norm_ (a' := ?_) ?_ ?_
 rotate_left
 {
 show Act.put _ (some 25) _ = _
 simp only [Act.put, List.setIfInBounds_toArray, List.set_cons_zero, List.set_cons_succ, i64_w, i32_w]
 rfl
 }
 refine pure_ (i := 9) (N := some 26) (v := ?_) (a' := ?_) #[true, true, true, true, true, true, true, true, true, true] rfl rfl (any_of HT_.out (by kernel_rfl)) (fun _ _ _ h => h) (Or.inl ⟨by rfl, ?_⟩) ?_ ?_
 rotate_left
 {
 intro w'
 go_simp
 with_reducible rfl
 }
 rotate_left
 {
 simp only [Act.put, List.setIfInBounds_toArray, List.set_cons_zero, List.set_cons_succ, i64_w, i32_w]
 rfl
 }
 refine done_ (done_of HT_.out (by kernel_rfl)) ?_
 try go_wp2
 )
 rotate_left
 )
 rotate_right 2
 {
 go_roundg k1
 case measure => have := HK1.out; omega
 case rel => exact ⟨(wrap64 (x5_1 + 1)), (by first | rfl | (simp; done) | (simp [*]; done)), H', ⟨by have := HK1.out; omega⟩, ⟨wB⟩⟩
 }
 {
 go_ret
 exact ⟨by first | rfl | (simp [errW_none, errW_some] <;> rfl) | (simp [*, errW_none, errW_some] <;> rfl), wB⟩
 }
 {
 go_ret
 exact ⟨by first | rfl | (simp [errW_none, errW_some] <;> rfl) | (simp [*, errW_none, errW_some] <;> rfl), wB⟩
 }
 }
 )
 }
 {
 rw [if_neg c3] at H
 have c3b0 : ((l0.length : Int) == (l1.length : Int)) = false := beq_eq_false_iff_ne.mpr c3
 have c3b1 : ((l0.length : Int) != (l1.length : Int)) = true := bne_iff_ne.mpr c3
 have c3b2 : (l0.length == l1.length) = false := by first | simpa using c3 | (simp at c3 ⊢; omega)
 obtain rfl := Option.some.inj H
 go_enter Tryd.func32, Tryd.ntmps32
 go_wp2
 go_ret
 exact ⟨by first | rfl | (simp [errW_none, errW_some] <;> rfl) | (simp [*, errW_none, errW_some] <;> rfl), wB⟩
 }

/-! ### laws_FnExactShowRoutes: function 10 -/
def laws_FnExactShowRoutes.j0 : Nat → List (S78) → List (S74) → Bool → Option (Bool)
  | 0, _, _, _ => none
  | k + 1, x0, x6, x34 => if x34 = true then (some false) else ((laws_toRouteS.f k x0).bind fun t210 => ((laws_eqRouteS.f k x6 t210).bind fun t213 => (if t213 = true then (some true) else (some false))))
def laws_FnExactShowRoutes.f (k : Nat) (l0 : List (S78)) : Option (Bool) := (laws_szRouteS.f l0 1048576).bind fun t199 => (if t199 < 0 then (some true) else ((laws_toRouteS.f k l0).bind fun t200 => ((spec_ShowRoutes.f k t200).bind fun bt203 => ((laws_toRouteS.f k l0).bind fun t205 => ((impl_ShowRoutes.f k t205).bind fun bt208 => (if bt208.1.toList = bt203.1.toList then (laws_FnExactShowRoutes.j0 k l0 t205 (bt208.2 != bt203.2)) else (laws_FnExactShowRoutes.j0 k l0 t205 true)))))))
theorem laws_FnExactShowRoutes.mono_l : ∀ k, (∀ y0 y1 y2, LeO (laws_FnExactShowRoutes.j0 k y0 y1 y2) (laws_FnExactShowRoutes.j0 (k + 1) y0 y1 y2))
  | 0 => fun _ _ _ r h => by simp [laws_FnExactShowRoutes.j0] at h
  | k + 1 => by
    have ih0 := laws_FnExactShowRoutes.mono_l k
    · intro y0 y1 y2
      unfold laws_FnExactShowRoutes.j0
      repeat' first
      | (with_reducible exact ih0 _ _ _)
      | (with_reducible exact impl_ShowRoutes.mono _ _)
      | (with_reducible exact laws_eqRouteS.mono _ _ _)
      | (with_reducible exact laws_toRouteS.mono _ _)
      | (with_reducible exact spec_ShowRoutes.mono _ _)
      | (with_reducible exact LeO.refl _)
      | (with_reducible exact LeO.none _)
      | (with_reducible refine LeO.ite ?_ ?_)
      | (with_reducible refine LeO.bind ?_ (fun _ => ?_))
      | exact ih0 _ _ _
      | exact impl_ShowRoutes.mono _ _
      | exact laws_eqRouteS.mono _ _ _
      | exact laws_toRouteS.mono _ _
      | exact spec_ShowRoutes.mono _ _
      | exact LeO.none _
      | refine LeO.ite ?_ ?_
      | refine LeO.bind ?_ (fun _ => ?_)
theorem laws_FnExactShowRoutes.mono : ∀ a0 k, LeO (laws_FnExactShowRoutes.f k a0) (laws_FnExactShowRoutes.f (k + 1) a0) := by
  intro a0 k
  have ih0 := laws_FnExactShowRoutes.mono_l k
  unfold laws_FnExactShowRoutes.f
  repeat' first
      | (with_reducible exact ih0 _ _ _)
      | (with_reducible exact impl_ShowRoutes.mono _ _)
      | (with_reducible exact laws_eqRouteS.mono _ _ _)
      | (with_reducible exact laws_toRouteS.mono _ _)
      | (with_reducible exact spec_ShowRoutes.mono _ _)
      | (with_reducible exact LeO.refl _)
      | (with_reducible exact LeO.none _)
      | (with_reducible refine LeO.ite ?_ ?_)
      | (with_reducible refine LeO.bind ?_ (fun _ => ?_))
      | exact ih0 _ _ _
      | exact impl_ShowRoutes.mono _ _
      | exact laws_eqRouteS.mono _ _ _
      | exact laws_toRouteS.mono _ _
      | exact spec_ShowRoutes.mono _ _
      | exact LeO.none _
      | refine LeO.ite ?_ ?_
      | refine LeO.bind ?_ (fun _ => ?_)
set_option maxHeartbeats 60000000 in
set_option maxRecDepth 100000 in
theorem laws_FnExactShowRoutes.calls (k : Nat) (A0 : Option Addr) (c0 : Nat) (l0 : List (S78)) (r : Bool) (w : World) (hr0 : Kd.C k78 w A0 l0.length l0) (hc0 : l0.length ≤ c0) (hd : Door w) (h : laws_FnExactShowRoutes.f k l0 = some r) :
    Calls Tryd.prog 10 #[.slice A0 l0.length c0] w fun e w' => e = .returned (.bool r) ∧ Below w.heap.size w w' := by
  have HR0 := Aside0.mk hr0
  have HC0 := Aside0.mk hc0
  clear hr0 hc0
  have HD := Aside0.mk hd
  clear hd
  have HB := Aside0.mk (Below.refl w.heap.size w)
  have H : ((laws_szRouteS.f l0 1048576).bind fun t199 => (if t199 < 0 then (some true) else ((laws_toRouteS.f k l0).bind fun t200 => ((spec_ShowRoutes.f k t200).bind fun bt203 => ((laws_toRouteS.f k l0).bind fun t205 => ((impl_ShowRoutes.f k t205).bind fun bt208 => (if bt208.1.toList = bt203.1.toList then (laws_FnExactShowRoutes.j0 k l0 t205 (bt208.2 != bt203.2)) else (laws_FnExactShowRoutes.j0 k l0 t205 true)))))))) = some r := h
  clear h
  replace H := Option.bind_eq_some_iff.mp H
  obtain ⟨t199, A20, H⟩ := H
  replace H : (if t199 < 0 then (some true) else ((laws_toRouteS.f k l0).bind fun t200 => ((spec_ShowRoutes.f k t200).bind fun bt203 => ((laws_toRouteS.f k l0).bind fun t205 => ((impl_ShowRoutes.f k t205).bind fun bt208 => (if bt208.1.toList = bt203.1.toList then (laws_FnExactShowRoutes.j0 k l0 t205 (bt208.2 != bt203.2)) else (laws_FnExactShowRoutes.j0 k l0 t205 true))))))) = some r := H
  have A2 := Aside0.mk A20
  clear A20
  by_cases c3 : t199 < 0
  · rw [if_pos c3] at H
    have c3b0 : decide (t199 < 0) = true := decide_eq_true c3
    clear c3
    obtain rfl := Option.some.inj H
    go_enter Tryd.func10, Tryd.ntmps10
    go_wp2_with (first | ((with_reducible refine gate_callee (f := 28) rfl ?_); refine goesL_ (some 11) rfl rfl Tryd.func28 (by kernel_rfl) rfl #[.slice A0 l0.length c0, .int .i64 1048576] rfl wT ?_; (with_reducible refine (laws_szRouteS.calls _ _ l0 1048576 t199 _ ?side1 ?side2 A2.out).mono ?_); (case side1 => repeat (first | exact HR0.out | (with_reducible refine Kd.C_alloc ?_ _) | (with_reducible refine Kd.C_drewN ?_ _) | (with_reducible refine Kd.C_drew ?_))); (case side2 => exact HC0.out); rintro e w' ⟨rfl, ⟨nd, rfl⟩⟩; refine ⟨_, rfl, ?_⟩))
    go_ret
    exact ⟨by first | rfl | (simp [errW_none, errW_some] <;> rfl) | (simp [*, errW_none, errW_some] <;> rfl), wB⟩
  · rw [if_neg c3] at H
    have c3b0 : decide (t199 < 0) = false := decide_eq_false c3
    clear c3
    replace H := Option.bind_eq_some_iff.mp H
    obtain ⟨t200, A40, H⟩ := H
    replace H : ((spec_ShowRoutes.f k t200).bind fun bt203 => ((laws_toRouteS.f k l0).bind fun t205 => ((impl_ShowRoutes.f k t205).bind fun bt208 => (if bt208.1.toList = bt203.1.toList then (laws_FnExactShowRoutes.j0 k l0 t205 (bt208.2 != bt203.2)) else (laws_FnExactShowRoutes.j0 k l0 t205 true))))) = some r := H
    have A4 := Aside0.mk A40
    clear A40
    replace H := Option.bind_eq_some_iff.mp H
    obtain ⟨⟨t203, t204⟩, A50, H⟩ := H
    replace H : ((laws_toRouteS.f k l0).bind fun t205 => ((impl_ShowRoutes.f k t205).bind fun bt208 => (if bt208.1.toList = t203.toList then (laws_FnExactShowRoutes.j0 k l0 t205 (bt208.2 != t204)) else (laws_FnExactShowRoutes.j0 k l0 t205 true)))) = some r := H
    have A5 := Aside0.mk A50
    clear A50
    replace H := Option.bind_eq_some_iff.mp H
    obtain ⟨t205, A60, H⟩ := H
    replace H : ((impl_ShowRoutes.f k t205).bind fun bt208 => (if bt208.1.toList = t203.toList then (laws_FnExactShowRoutes.j0 k l0 t205 (bt208.2 != t204)) else (laws_FnExactShowRoutes.j0 k l0 t205 true))) = some r := H
    have A6 := Aside0.mk A60
    clear A60
    replace H := Option.bind_eq_some_iff.mp H
    obtain ⟨⟨t208, t209⟩, A70, H⟩ := H
    replace H : (if t208.toList = t203.toList then (laws_FnExactShowRoutes.j0 k l0 t205 (t209 != t204)) else (laws_FnExactShowRoutes.j0 k l0 t205 true)) = some r := H
    have A7 := Aside0.mk A70
    clear A70
    have HC8 := Aside0.mk H
    clear H
    go_enter Tryd.func10, Tryd.ntmps10
    go_upto_region 8 with (first | ((with_reducible refine gate_callee (f := 28) rfl ?_); refine goesL_ (some 11) rfl rfl Tryd.func28 (by kernel_rfl) rfl #[.slice A0 l0.length c0, .int .i64 1048576] rfl wT ?_; (with_reducible refine (laws_szRouteS.calls _ _ l0 1048576 t199 _ ?side1 ?side2 A2.out).mono ?_); (case side1 => repeat (first | exact HR0.out | (with_reducible refine Kd.C_alloc ?_ _) | (with_reducible refine Kd.C_drewN ?_ _) | (with_reducible refine Kd.C_drew ?_))); (case side2 => exact HC0.out); rintro e w' ⟨rfl, ⟨nd, rfl⟩⟩; refine ⟨_, rfl, ?_⟩) | ((with_reducible refine gate_callee (f := 30) rfl ?_); refine goesL_ (some 16) rfl rfl Tryd.func30 (by kernel_rfl) rfl #[.slice A0 l0.length c0] rfl wT ?_; (with_reducible refine (laws_toRouteS.calls k _ _ l0 t200 _ ?side1 ?side2 A4.out).mono ?_); (case side1 => repeat (first | exact HR0.out | (with_reducible refine Kd.C_alloc ?_ _) | (with_reducible refine Kd.C_drewN ?_ _) | (with_reducible refine Kd.C_drew ?_))); (case side2 => exact HC0.out); rintro e w1001 ⟨v201, rfl, ho0, hb⟩; refine ⟨_, rfl, ?_⟩; have n0_ := Aside0.mk (Kd.R_lower ho0 (below_size wB)); have n1_ := Aside0.mk (below_step wB hb); clear HB; have HO202 := n0_; have HB := n1_; clear n0_ n1_; (try clear hb); (try clear hb2); (try clear hk); (try clear hi); (try clear ho0); obtain ⟨Ao1002, co1002, eo1002⟩ := Kd.R_slice HO202.out; subst eo1002) | ((with_reducible refine gate_callee (f := 29) rfl ?_); refine goesL_ (some 17) rfl rfl Tryd.func29 (by kernel_rfl) rfl #[.slice Ao1002 t200.length co1002] rfl wT ?_; (with_reducible refine (spec_ShowRoutes.calls k _ _ t200 t203 t204 _ ?side1 ?side2 A5.out).mono ?_); (case side1 => exact Ch HO202); (case side2 => exact (Kd.R_reads' HO202.out).2.1); rintro e w1003 ⟨rfl, hb⟩; refine ⟨_, rfl, ?_⟩; have n0_ := Aside0.mk (Kd.R_below (Rh HO202) hb); have n1_ := Aside0.mk (below_step wB hb); clear HO202; clear HB; have HO202 := n0_; have HB := n1_; clear n0_ n1_; (try clear hb); (try clear hb2); (try clear hk); (try clear hi)) | ((with_reducible refine gate_callee (f := 30) rfl ?_); refine goesL_ (some 21) rfl rfl Tryd.func30 (by kernel_rfl) rfl #[.slice A0 l0.length c0] rfl wT ?_; (with_reducible refine (laws_toRouteS.calls k _ _ l0 t205 _ ?side1 ?side2 A6.out).mono ?_); (case side1 => exact Kd.C_below HR0.out wB); (case side2 => exact HC0.out); rintro e w1004 ⟨v206, rfl, ho0, hb⟩; refine ⟨_, rfl, ?_⟩; have n0_ := Aside0.mk (Kd.R_elder' (Rh HO202) (Kd.R_base ho0) hb); have n1_ := Aside0.mk (Kd.R_lower (Kd.R_new' ho0 (Kd.R_lt (Rh HO202))) (below_size wB)); have n2_ := Aside0.mk (below_step wB hb); clear HO202; clear HB; have HO202 := n0_; have HO207 := n1_; have HB := n2_; clear n0_ n1_ n2_; (try clear hb); (try clear hb2); (try clear hk); (try clear hi); (try clear ho0); obtain ⟨Ao1005, co1005, eo1005⟩ := Kd.R_slice HO207.out; subst eo1005) | ((with_reducible refine gate_callee (f := 31) rfl ?_); refine goesL_ (some 24) rfl rfl Tryd.func31 (by kernel_rfl) rfl #[.slice Ao1005 t205.length co1005] rfl wT ?_; (with_reducible refine (impl_ShowRoutes.calls k _ _ t205 t208 t209 _ ?side1 ?side2 ?side3 A7.out).mono ?_); (case side1 => exact Ch HO207); (case side2 => exact (Kd.R_reads' HO207.out).2.1); (case side3 => repeat (first | exact (Door.c_below HD.out HB.out) | (with_reducible refine Door.c_alloc ?_ _) | (with_reducible refine Door.c_drewN ?_ _) | (with_reducible refine Door.c_drew ?_))); rintro e w1006 ⟨rfl, hb⟩; refine ⟨_, rfl, ?_⟩; have n0_ := Aside0.mk (Kd.R_below (Rh HO202) hb); have n1_ := Aside0.mk (Kd.R_below (Rh HO207) hb); have n2_ := Aside0.mk (below_step wB hb); clear HO202; clear HO207; clear HB; have HO202 := n0_; have HO207 := n1_; have HB := n2_; clear n0_ n1_ n2_; (try clear hb); (try clear hb2); (try clear hk); (try clear hi)))
    (try simp only [Act.put, List.setIfInBounds_toArray, List.set_cons_zero, List.set_cons_succ])
    go_cut [34] (fun v34 wc => ∃ (kq : Nat) (x34_7 : Bool), v34 = .bool x34_7 ∧ Aside0 (laws_FnExactShowRoutes.j0 kq l0 t205 x34_7 = some r) ∧ Aside0 (kq ≤ k) ∧ Aside0 (Kd.R k74 74 wc w.heap.size (fun _ => True) (.slice Ao1005 t205.length co1005) t205) ∧ Aside0 (Below w.heap.size w wc))
    case first =>
      have H := HC8.out
      clear HC8
      by_cases c1007 : t208.toList = t203.toList
      · rw [if_pos c1007] at H
        have c1007b0 : (t208.toList == t203.toList) = true := beq_iff_eq.mpr c1007
        have c1007b1 : (t208.toList != t203.toList) = false := bne_eq_false_iff_eq.mpr c1007
        clear c1007
        (first | rw [c1007b0] | (simp only [i64_w, i32_w]; rw [c1007b0]) | skip)
        have H' := Aside0.mk H
        clear H
        go_wp2
        go_meet
        case rel => exact ⟨_, ((t209 != t204)), (by first | rfl | (simp; done) | (simp [*]; done)), H', ⟨by first | omega | exact Nat.le_refl _⟩, ⟨Kd.R_mono (Rh HO207) (fun _ hk => trivial)⟩, ⟨wB⟩⟩
      · rw [if_neg c1007] at H
        have c1007b0 : (t208.toList == t203.toList) = false := beq_eq_false_iff_ne.mpr c1007
        have c1007b1 : (t208.toList != t203.toList) = true := bne_iff_ne.mpr c1007
        (first | rw [c1007b0] | (simp only [i64_w, i32_w]; rw [c1007b0]) | skip)
        have H' := Aside0.mk H
        clear H
        go_wp2
        go_meet
        case rel => exact ⟨_, (true), (by first | rfl | (simp; done) | (simp [*]; done)), H', ⟨by first | omega | exact Nat.le_refl _⟩, ⟨Kd.R_mono (Rh HO207) (fun _ hk => trivial)⟩, ⟨wB⟩⟩
    case rest =>
      clear HC8
      try clear c0
      try clear c3
      try clear c3b0
      try clear c1007
      try clear c1007b0
      try clear c1007b1
      obtain ⟨kq, x34_7, rfl, HA, HJ7, HO_6, HB⟩ := hcut
      cases kq with
      | zero => exact absurd HA.out (by simp [laws_FnExactShowRoutes.j0])
      | succ kj7 =>
        have H := HA.out
        clear HA
        simp only [laws_FnExactShowRoutes.j0] at H
        by_cases c1008 : x34_7 = true
        · subst c1008
          have H1 : (some false) = some r := by rw [if_pos rfl] at H; exact H
          clear H
          have H := H1
          clear H1
          obtain rfl := Option.some.inj H
          go_wp2
          go_ret
          exact ⟨by first | rfl | (simp [errW_none, errW_some] <;> rfl) | (simp [*, errW_none, errW_some] <;> rfl), wB⟩
        · replace c1008 := Bool.eq_false_iff.mpr c1008
          subst c1008
          have H1 : ((laws_toRouteS.f kj7 l0).bind fun t210 => ((laws_eqRouteS.f kj7 t205 t210).bind fun t213 => (if t213 = true then (some true) else (some false)))) = some r := by rw [if_neg (show ¬ (false = true) by decide)] at H; exact H
          clear H
          have H := H1
          clear H1
          replace H := Option.bind_eq_some_iff.mp H
          obtain ⟨t210, A10090, H⟩ := H
          replace H : ((laws_eqRouteS.f kj7 t205 t210).bind fun t213 => (if t213 = true then (some true) else (some false))) = some r := H
          have A1009 := Aside0.mk A10090
          clear A10090
          replace H := Option.bind_eq_some_iff.mp H
          obtain ⟨t213, A10100, H⟩ := H
          replace H : (if t213 = true then (some true) else (some false)) = some r := H
          have A1010 := Aside0.mk A10100
          clear A10100
          by_cases c1011 : t213 = true
          · subst c1011
            have H1 : (some true) = some r := by rw [if_pos rfl] at H; exact H
            clear H
            have H := H1
            clear H1
            obtain rfl := Option.some.inj H
            go_wp2_with (first | ((with_reducible refine gate_callee (f := 30) rfl ?_); refine goesL_ (some 37) rfl rfl Tryd.func30 (by kernel_rfl) rfl #[.slice A0 l0.length c0] rfl wT ?_; (with_reducible refine (laws_toRouteS.calls kj7 _ _ l0 t210 _ ?side1 ?side2 A1009.out).mono ?_); (case side1 => exact Kd.C_below HR0.out wB); (case side2 => exact HC0.out); rintro e w2001 ⟨v211, rfl, ho0, hb⟩; refine ⟨_, rfl, ?_⟩; have n0_ := Aside0.mk (Kd.R_elder' (Rh HO_6) (Kd.R_base ho0) hb); have n1_ := Aside0.mk (Kd.R_lower (Kd.R_new' ho0 (Kd.R_lt (Rh HO_6))) (below_size wB)); have n2_ := Aside0.mk (below_step wB hb); clear HO_6; clear HB; have HO_6 := n0_; have HO212 := n1_; have HB := n2_; clear n0_ n1_ n2_; (try clear hb); (try clear hb2); (try clear hk); (try clear hi); (try clear ho0); obtain ⟨Ao2002, co2002, eo2002⟩ := Kd.R_slice HO212.out; subst eo2002) | ((with_reducible refine gate_callee (f := 32) rfl ?_); refine goesL_ (some 38) rfl rfl Tryd.func32 (by kernel_rfl) rfl #[.slice Ao1005 t205.length co1005, .slice Ao2002 t210.length co2002] rfl wT ?_; (with_reducible refine (laws_eqRouteS.calls kj7 _ _ t205 _ _ t210 true _ ?side1 ?side2 ?side3 ?side4 A1010.out).mono ?_); (case side1 => exact Ch HO_6); (case side2 => exact (Kd.R_reads' HO_6.out).2.1); (case side3 => exact Ch HO212); (case side4 => exact (Kd.R_reads' HO212.out).2.1); rintro e w2003 ⟨rfl, hb⟩; refine ⟨_, rfl, ?_⟩; have n0_ := Aside0.mk (Kd.R_below (Rh HO_6) hb); have n1_ := Aside0.mk (Kd.R_below (Rh HO212) hb); have n2_ := Aside0.mk (below_step wB hb); clear HO_6; clear HO212; clear HB; have HO_6 := n0_; have HO212 := n1_; have HB := n2_; clear n0_ n1_ n2_; (try clear hb); (try clear hb2); (try clear hk); (try clear hi)))
            go_ret
            exact ⟨by first | rfl | (simp [errW_none, errW_some] <;> rfl) | (simp [*, errW_none, errW_some] <;> rfl), wB⟩
          · replace c1011 := Bool.eq_false_iff.mpr c1011
            subst c1011
            have H1 : (some false) = some r := by rw [if_neg (show ¬ (false = true) by decide)] at H; exact H
            clear H
            have H := H1
            clear H1
            obtain rfl := Option.some.inj H
            go_wp2_with (first | ((with_reducible refine gate_callee (f := 30) rfl ?_); refine goesL_ (some 37) rfl rfl Tryd.func30 (by kernel_rfl) rfl #[.slice A0 l0.length c0] rfl wT ?_; (with_reducible refine (laws_toRouteS.calls kj7 _ _ l0 t210 _ ?side1 ?side2 A1009.out).mono ?_); (case side1 => exact Kd.C_below HR0.out wB); (case side2 => exact HC0.out); rintro e w2001 ⟨v211, rfl, ho0, hb⟩; refine ⟨_, rfl, ?_⟩; have n0_ := Aside0.mk (Kd.R_elder' (Rh HO_6) (Kd.R_base ho0) hb); have n1_ := Aside0.mk (Kd.R_lower (Kd.R_new' ho0 (Kd.R_lt (Rh HO_6))) (below_size wB)); have n2_ := Aside0.mk (below_step wB hb); clear HO_6; clear HB; have HO_6 := n0_; have HO212 := n1_; have HB := n2_; clear n0_ n1_ n2_; (try clear hb); (try clear hb2); (try clear hk); (try clear hi); (try clear ho0); obtain ⟨Ao2002, co2002, eo2002⟩ := Kd.R_slice HO212.out; subst eo2002) | ((with_reducible refine gate_callee (f := 32) rfl ?_); refine goesL_ (some 38) rfl rfl Tryd.func32 (by kernel_rfl) rfl #[.slice Ao1005 t205.length co1005, .slice Ao2002 t210.length co2002] rfl wT ?_; (with_reducible refine (laws_eqRouteS.calls kj7 _ _ t205 _ _ t210 false _ ?side1 ?side2 ?side3 ?side4 A1010.out).mono ?_); (case side1 => exact Ch HO_6); (case side2 => exact (Kd.R_reads' HO_6.out).2.1); (case side3 => exact Ch HO212); (case side4 => exact (Kd.R_reads' HO212.out).2.1); rintro e w2003 ⟨rfl, hb⟩; refine ⟨_, rfl, ?_⟩; have n0_ := Aside0.mk (Kd.R_below (Rh HO_6) hb); have n1_ := Aside0.mk (Kd.R_below (Rh HO212) hb); have n2_ := Aside0.mk (below_step wB hb); clear HO_6; clear HO212; clear HB; have HO_6 := n0_; have HO212 := n1_; have HB := n2_; clear n0_ n1_ n2_; (try clear hb); (try clear hb2); (try clear hk); (try clear hi)))
            go_ret
            exact ⟨by first | rfl | (simp [errW_none, errW_some] <;> rfl) | (simp [*, errW_none, errW_some] <;> rfl), wB⟩

end Go.Proofs.YtnnplkhjmdbmbaaDoor.PFnExactShowRoutes
