-- Written for this claim by a program of this session (wip/mkprint.py: the print, turned at a few places). Not trusted: Lean checks it.
import Derived.Test.YtmgapmpmmkmdhaaDoorPFnExactShowRulesx0
import Derived.Test.YtmgapmpmmkmdhaaDoorPFnExactShowRulesx5
namespace Go.Proofs.YtmgapmpmmkmdhaaDoor.PFnExactShowRules
open Go.RowKit Go.Proofs.YtmgapmpmmkmdhaaDoorW.PrintWords Go.Proofs.YtmgapmpmmkmdhaaDoorW.PrintLast Go.Proofs.YtmgapmpmmkmdhaaDoorW.PrintMore
attribute [local go_sem] max2_int min2_int max_two min_two max_three min_three max_four min_four   -- for this text's walks alone
set_option linter.unusedVariables false
set_option linter.unusedSimpArgs false

/-! ### impl_okRule: function 14 -/
set_option maxHeartbeats 60000000 in
set_option maxRecDepth 100000 in
theorem impl_okRule.pre0 (a0_0 a0_1 a0_2 a0_3 a0_4 a0_5 a0_6 a0_7 a0_8 a0_9 a0_10 a0_11 : Int) (w : World) (c0 : decide (1 ≤ a0_0) = false) :
    Calls Tryd.prog 14 #[.agg #[.int .i64 a0_0, .int .i64 a0_1, .int .i64 a0_2, .int .i64 a0_3, .int .i64 a0_4, .int .i64 a0_5, .int .i64 a0_6, .int .i64 a0_7, .int .i64 a0_8, .int .i64 a0_9, .int .i64 a0_10, .int .i64 a0_11]] w fun e w' => e = .returned (.bool false) ∧ Below w.heap.size w w' := by
  have hu33 := Tryd.underlying33
  have hu31 := Tryd.underlying31
  have HB := Aside0.mk (Below.refl w.heap.size w)
  go_enter Tryd.func14, Tryd.ntmps14
  go_upto_region 1 with (first
    | ((with_reducible refine gate_dst (N := 1) rfl ?_); refine box_event ?hg (N := 1) ?hd (cs := #[.int .i64 a0_0, .int .i64 a0_1, .int .i64 a0_2, .int .i64 a0_3, .int .i64 a0_4, .int .i64 a0_5, .int .i64 a0_6, .int .i64 a0_7, .int .i64 a0_8, .int .i64 a0_9, .int .i64 a0_10, .int .i64 a0_11]) (t := 33) ?hr ?_; (case hd => rfl); (case hg => rfl); (case hr => first | (go_simp; done) | (go_simp; rfl)); intro gb hg w1 hbox hb; have B1 := Aside0.mk (below_step HB.out hb); have BK := Aside0.mk hbox; clear hb hbox hg; obtain ⟨⟨hcz_0, hcz_1, hcz_2, hcz_3, hcz_4, hcz_5, hcz_6, hcz_7, hcz_8, hcz_9, hcz_10, hcz_11⟩, hfz_0, hfz_1, hfz_2, hfz_3, hfz_4, hfz_5, hfz_6, hfz_7, hfz_8, hfz_9, hfz_10, hfz_11⟩ := cells12 BK.out))
  refine wp_region_lit ?_
  simp only [List.append_eq, List.cons_append, List.nil_append]
  go_wp2_with (first
    | (fail))
  go_ret
  exact ⟨by first | rfl | (simp; done) | (simp [*]; done), by first | exact B1.out | (repeat (first | exact B1.out | apply pw_below_drewN | apply below_drew1))⟩
set_option maxHeartbeats 60000000 in
set_option maxRecDepth 100000 in
theorem impl_okRule.pre1 (a0_0 a0_1 a0_2 a0_3 a0_4 a0_5 a0_6 a0_7 a0_8 a0_9 a0_10 a0_11 : Int) (w : World) (c0 : decide (1 ≤ a0_0) = true) (c1 : decide (a0_0 ≤ 3) = false) :
    Calls Tryd.prog 14 #[.agg #[.int .i64 a0_0, .int .i64 a0_1, .int .i64 a0_2, .int .i64 a0_3, .int .i64 a0_4, .int .i64 a0_5, .int .i64 a0_6, .int .i64 a0_7, .int .i64 a0_8, .int .i64 a0_9, .int .i64 a0_10, .int .i64 a0_11]] w fun e w' => e = .returned (.bool false) ∧ Below w.heap.size w w' := by
  have hu33 := Tryd.underlying33
  have hu31 := Tryd.underlying31
  have HB := Aside0.mk (Below.refl w.heap.size w)
  go_enter Tryd.func14, Tryd.ntmps14
  go_upto_region 1 with (first
    | ((with_reducible refine gate_dst (N := 1) rfl ?_); refine box_event ?hg (N := 1) ?hd (cs := #[.int .i64 a0_0, .int .i64 a0_1, .int .i64 a0_2, .int .i64 a0_3, .int .i64 a0_4, .int .i64 a0_5, .int .i64 a0_6, .int .i64 a0_7, .int .i64 a0_8, .int .i64 a0_9, .int .i64 a0_10, .int .i64 a0_11]) (t := 33) ?hr ?_; (case hd => rfl); (case hg => rfl); (case hr => first | (go_simp; done) | (go_simp; rfl)); intro gb hg w1 hbox hb; have B1 := Aside0.mk (below_step HB.out hb); have BK := Aside0.mk hbox; clear hb hbox hg; obtain ⟨⟨hcz_0, hcz_1, hcz_2, hcz_3, hcz_4, hcz_5, hcz_6, hcz_7, hcz_8, hcz_9, hcz_10, hcz_11⟩, hfz_0, hfz_1, hfz_2, hfz_3, hfz_4, hfz_5, hfz_6, hfz_7, hfz_8, hfz_9, hfz_10, hfz_11⟩ := cells12 BK.out))
  refine wp_region_lit ?_
  simp only [List.append_eq, List.cons_append, List.nil_append]
  go_wp2_with (first
    | (fail))
  go_ret
  exact ⟨by first | rfl | (simp; done) | (simp [*]; done), by first | exact B1.out | (repeat (first | exact B1.out | apply pw_below_drewN | apply below_drew1))⟩
set_option maxHeartbeats 60000000 in
set_option maxRecDepth 100000 in
theorem impl_okRule.pre2 (a0_0 a0_1 a0_2 a0_3 a0_4 a0_5 a0_6 a0_7 a0_8 a0_9 a0_10 a0_11 : Int) (w : World) (c0 : decide (1 ≤ a0_0) = true) (c1 : decide (a0_0 ≤ 3) = true) (c2 : decide (1 ≤ a0_1) = false) :
    Calls Tryd.prog 14 #[.agg #[.int .i64 a0_0, .int .i64 a0_1, .int .i64 a0_2, .int .i64 a0_3, .int .i64 a0_4, .int .i64 a0_5, .int .i64 a0_6, .int .i64 a0_7, .int .i64 a0_8, .int .i64 a0_9, .int .i64 a0_10, .int .i64 a0_11]] w fun e w' => e = .returned (.bool false) ∧ Below w.heap.size w w' := by
  have hu33 := Tryd.underlying33
  have hu31 := Tryd.underlying31
  have HB := Aside0.mk (Below.refl w.heap.size w)
  go_enter Tryd.func14, Tryd.ntmps14
  go_upto_region 1 with (first
    | ((with_reducible refine gate_dst (N := 1) rfl ?_); refine box_event ?hg (N := 1) ?hd (cs := #[.int .i64 a0_0, .int .i64 a0_1, .int .i64 a0_2, .int .i64 a0_3, .int .i64 a0_4, .int .i64 a0_5, .int .i64 a0_6, .int .i64 a0_7, .int .i64 a0_8, .int .i64 a0_9, .int .i64 a0_10, .int .i64 a0_11]) (t := 33) ?hr ?_; (case hd => rfl); (case hg => rfl); (case hr => first | (go_simp; done) | (go_simp; rfl)); intro gb hg w1 hbox hb; have B1 := Aside0.mk (below_step HB.out hb); have BK := Aside0.mk hbox; clear hb hbox hg; obtain ⟨⟨hcz_0, hcz_1, hcz_2, hcz_3, hcz_4, hcz_5, hcz_6, hcz_7, hcz_8, hcz_9, hcz_10, hcz_11⟩, hfz_0, hfz_1, hfz_2, hfz_3, hfz_4, hfz_5, hfz_6, hfz_7, hfz_8, hfz_9, hfz_10, hfz_11⟩ := cells12 BK.out))
  refine wp_region_lit ?_
  simp only [List.append_eq, List.cons_append, List.nil_append]
  go_wp2_with (first
    | (fail))
  go_ret
  exact ⟨by first | rfl | (simp; done) | (simp [*]; done), by first | exact B1.out | (repeat (first | exact B1.out | apply pw_below_drewN | apply below_drew1))⟩
set_option maxHeartbeats 60000000 in
set_option maxRecDepth 100000 in
theorem impl_okRule.pre3 (a0_0 a0_1 a0_2 a0_3 a0_4 a0_5 a0_6 a0_7 a0_8 a0_9 a0_10 a0_11 : Int) (w : World) (c0 : decide (1 ≤ a0_0) = true) (c1 : decide (a0_0 ≤ 3) = true) (c2 : decide (1 ≤ a0_1) = true) (c3 : decide (a0_1 ≤ 3) = false) :
    Calls Tryd.prog 14 #[.agg #[.int .i64 a0_0, .int .i64 a0_1, .int .i64 a0_2, .int .i64 a0_3, .int .i64 a0_4, .int .i64 a0_5, .int .i64 a0_6, .int .i64 a0_7, .int .i64 a0_8, .int .i64 a0_9, .int .i64 a0_10, .int .i64 a0_11]] w fun e w' => e = .returned (.bool false) ∧ Below w.heap.size w w' := by
  have hu33 := Tryd.underlying33
  have hu31 := Tryd.underlying31
  have HB := Aside0.mk (Below.refl w.heap.size w)
  go_enter Tryd.func14, Tryd.ntmps14
  go_upto_region 1 with (first
    | ((with_reducible refine gate_dst (N := 1) rfl ?_); refine box_event ?hg (N := 1) ?hd (cs := #[.int .i64 a0_0, .int .i64 a0_1, .int .i64 a0_2, .int .i64 a0_3, .int .i64 a0_4, .int .i64 a0_5, .int .i64 a0_6, .int .i64 a0_7, .int .i64 a0_8, .int .i64 a0_9, .int .i64 a0_10, .int .i64 a0_11]) (t := 33) ?hr ?_; (case hd => rfl); (case hg => rfl); (case hr => first | (go_simp; done) | (go_simp; rfl)); intro gb hg w1 hbox hb; have B1 := Aside0.mk (below_step HB.out hb); have BK := Aside0.mk hbox; clear hb hbox hg; obtain ⟨⟨hcz_0, hcz_1, hcz_2, hcz_3, hcz_4, hcz_5, hcz_6, hcz_7, hcz_8, hcz_9, hcz_10, hcz_11⟩, hfz_0, hfz_1, hfz_2, hfz_3, hfz_4, hfz_5, hfz_6, hfz_7, hfz_8, hfz_9, hfz_10, hfz_11⟩ := cells12 BK.out))
  refine wp_region_lit ?_
  simp only [List.append_eq, List.cons_append, List.nil_append]
  go_wp2_with (first
    | (fail))
  go_ret
  exact ⟨by first | rfl | (simp; done) | (simp [*]; done), by first | exact B1.out | (repeat (first | exact B1.out | apply pw_below_drewN | apply below_drew1))⟩
set_option maxHeartbeats 60000000 in
set_option maxRecDepth 100000 in
theorem impl_okRule.pre4 (a0_0 a0_1 a0_2 a0_3 a0_4 a0_5 a0_6 a0_7 a0_8 a0_9 a0_10 a0_11 : Int) (w : World) (c0 : decide (1 ≤ a0_0) = true) (c1 : decide (a0_0 ≤ 3) = true) (c2 : decide (1 ≤ a0_1) = true) (c3 : decide (a0_1 ≤ 3) = true) (c4 : decide (0 ≤ a0_11) = false) :
    Calls Tryd.prog 14 #[.agg #[.int .i64 a0_0, .int .i64 a0_1, .int .i64 a0_2, .int .i64 a0_3, .int .i64 a0_4, .int .i64 a0_5, .int .i64 a0_6, .int .i64 a0_7, .int .i64 a0_8, .int .i64 a0_9, .int .i64 a0_10, .int .i64 a0_11]] w fun e w' => e = .returned (.bool false) ∧ Below w.heap.size w w' := by
  have hu33 := Tryd.underlying33
  have hu31 := Tryd.underlying31
  have HB := Aside0.mk (Below.refl w.heap.size w)
  go_enter Tryd.func14, Tryd.ntmps14
  go_upto_region 1 with (first
    | ((with_reducible refine gate_dst (N := 1) rfl ?_); refine box_event ?hg (N := 1) ?hd (cs := #[.int .i64 a0_0, .int .i64 a0_1, .int .i64 a0_2, .int .i64 a0_3, .int .i64 a0_4, .int .i64 a0_5, .int .i64 a0_6, .int .i64 a0_7, .int .i64 a0_8, .int .i64 a0_9, .int .i64 a0_10, .int .i64 a0_11]) (t := 33) ?hr ?_; (case hd => rfl); (case hg => rfl); (case hr => first | (go_simp; done) | (go_simp; rfl)); intro gb hg w1 hbox hb; have B1 := Aside0.mk (below_step HB.out hb); have BK := Aside0.mk hbox; clear hb hbox hg; obtain ⟨⟨hcz_0, hcz_1, hcz_2, hcz_3, hcz_4, hcz_5, hcz_6, hcz_7, hcz_8, hcz_9, hcz_10, hcz_11⟩, hfz_0, hfz_1, hfz_2, hfz_3, hfz_4, hfz_5, hfz_6, hfz_7, hfz_8, hfz_9, hfz_10, hfz_11⟩ := cells12 BK.out))
  refine wp_region_lit ?_
  simp only [List.append_eq, List.cons_append, List.nil_append]
  go_wp2_with (first
    | (fail))
  go_ret
  exact ⟨by first | rfl | (simp; done) | (simp [*]; done), by first | exact B1.out | (repeat (first | exact B1.out | apply pw_below_drewN | apply below_drew1))⟩
set_option maxHeartbeats 60000000 in
set_option maxRecDepth 100000 in
theorem impl_okRule.pre5 (a0_0 a0_1 a0_2 a0_3 a0_4 a0_5 a0_6 a0_7 a0_8 a0_9 a0_10 a0_11 : Int) (w : World) (c0 : decide (1 ≤ a0_0) = true) (c1 : decide (a0_0 ≤ 3) = true) (c2 : decide (1 ≤ a0_1) = true) (c3 : decide (a0_1 ≤ 3) = true) (c4 : decide (0 ≤ a0_11) = true) (c5 : decide (a0_11 ≤ 4) = false) :
    Calls Tryd.prog 14 #[.agg #[.int .i64 a0_0, .int .i64 a0_1, .int .i64 a0_2, .int .i64 a0_3, .int .i64 a0_4, .int .i64 a0_5, .int .i64 a0_6, .int .i64 a0_7, .int .i64 a0_8, .int .i64 a0_9, .int .i64 a0_10, .int .i64 a0_11]] w fun e w' => e = .returned (.bool false) ∧ Below w.heap.size w w' := by
  have hu33 := Tryd.underlying33
  have hu31 := Tryd.underlying31
  have HB := Aside0.mk (Below.refl w.heap.size w)
  go_enter Tryd.func14, Tryd.ntmps14
  go_upto_region 1 with (first
    | ((with_reducible refine gate_dst (N := 1) rfl ?_); refine box_event ?hg (N := 1) ?hd (cs := #[.int .i64 a0_0, .int .i64 a0_1, .int .i64 a0_2, .int .i64 a0_3, .int .i64 a0_4, .int .i64 a0_5, .int .i64 a0_6, .int .i64 a0_7, .int .i64 a0_8, .int .i64 a0_9, .int .i64 a0_10, .int .i64 a0_11]) (t := 33) ?hr ?_; (case hd => rfl); (case hg => rfl); (case hr => first | (go_simp; done) | (go_simp; rfl)); intro gb hg w1 hbox hb; have B1 := Aside0.mk (below_step HB.out hb); have BK := Aside0.mk hbox; clear hb hbox hg; obtain ⟨⟨hcz_0, hcz_1, hcz_2, hcz_3, hcz_4, hcz_5, hcz_6, hcz_7, hcz_8, hcz_9, hcz_10, hcz_11⟩, hfz_0, hfz_1, hfz_2, hfz_3, hfz_4, hfz_5, hfz_6, hfz_7, hfz_8, hfz_9, hfz_10, hfz_11⟩ := cells12 BK.out))
  refine wp_region_lit ?_
  simp only [List.append_eq, List.cons_append, List.nil_append]
  go_wp2_with (first
    | (fail))
  go_ret
  exact ⟨by first | rfl | (simp; done) | (simp [*]; done), by first | exact B1.out | (repeat (first | exact B1.out | apply pw_below_drewN | apply below_drew1))⟩
set_option maxHeartbeats 60000000 in
set_option maxRecDepth 100000 in
theorem impl_okRule.proto (a0_0 a0_1 a0_2 a0_3 a0_4 a0_5 a0_6 a0_7 a0_8 a0_9 a0_10 a0_11 : Int) (w : World) (c0 : decide (1 ≤ a0_0) = true) (c1 : decide (a0_0 ≤ 3) = true) (c2 : decide (1 ≤ a0_1) = true) (c3 : decide (a0_1 ≤ 3) = true) (c4 : decide (0 ≤ a0_11) = true) (c5 : decide (a0_11 ≤ 4) = true) (p0 : (a0_2 == 0) = false) (p1 : (a0_2 == 1) = false) (p6 : (a0_2 == 6) = false) (p17 : (a0_2 == 17) = false) :
    Calls Tryd.prog 14 #[.agg #[.int .i64 a0_0, .int .i64 a0_1, .int .i64 a0_2, .int .i64 a0_3, .int .i64 a0_4, .int .i64 a0_5, .int .i64 a0_6, .int .i64 a0_7, .int .i64 a0_8, .int .i64 a0_9, .int .i64 a0_10, .int .i64 a0_11]] w fun e w' => e = .returned (.bool false) ∧ Below w.heap.size w w' := by
  have hu33 := Tryd.underlying33
  have hu31 := Tryd.underlying31
  have HB := Aside0.mk (Below.refl w.heap.size w)
  go_enter Tryd.func14, Tryd.ntmps14
  go_upto_region 1 with (first
    | ((with_reducible refine gate_dst (N := 1) rfl ?_); refine box_event ?hg (N := 1) ?hd (cs := #[.int .i64 a0_0, .int .i64 a0_1, .int .i64 a0_2, .int .i64 a0_3, .int .i64 a0_4, .int .i64 a0_5, .int .i64 a0_6, .int .i64 a0_7, .int .i64 a0_8, .int .i64 a0_9, .int .i64 a0_10, .int .i64 a0_11]) (t := 33) ?hr ?_; (case hd => rfl); (case hg => rfl); (case hr => first | (go_simp; done) | (go_simp; rfl)); intro gb hg w1 hbox hb; have B1 := Aside0.mk (below_step HB.out hb); have BK := Aside0.mk hbox; clear hb hbox hg; obtain ⟨⟨hcz_0, hcz_1, hcz_2, hcz_3, hcz_4, hcz_5, hcz_6, hcz_7, hcz_8, hcz_9, hcz_10, hcz_11⟩, hfz_0, hfz_1, hfz_2, hfz_3, hfz_4, hfz_5, hfz_6, hfz_7, hfz_8, hfz_9, hfz_10, hfz_11⟩ := cells12 BK.out))
  refine wp_region_lit ?_
  simp only [List.append_eq, List.cons_append, List.nil_append]
  go_wp2_with (first
    | (fail))
  go_ret
  exact ⟨by first | rfl | (simp; done) | (simp [*]; done), by first | exact B1.out | (repeat (first | exact B1.out | apply pw_below_drewN | apply below_drew1))⟩
set_option maxHeartbeats 60000000 in
set_option maxRecDepth 100000 in
theorem impl_okRule.q0_call0 (a0_0 a0_1 a0_2 a0_3 a0_4 a0_5 a0_6 a0_7 a0_8 a0_9 a0_10 a0_11 : Int) (w : World) (c0 : decide (1 ≤ a0_0) = true) (c1 : decide (a0_0 ≤ 3) = true) (c2 : decide (1 ≤ a0_1) = true) (c3 : decide (a0_1 ≤ 3) = true) (c4 : decide (0 ≤ a0_11) = true) (c5 : decide (a0_11 ≤ 4) = true) (e0 : impl_okPrefix.f a0_3 a0_4 = some false) :
    Calls Tryd.prog 14 #[.agg #[.int .i64 a0_0, .int .i64 a0_1, .int .i64 0, .int .i64 a0_3, .int .i64 a0_4, .int .i64 a0_5, .int .i64 a0_6, .int .i64 a0_7, .int .i64 a0_8, .int .i64 a0_9, .int .i64 a0_10, .int .i64 a0_11]] w fun e w' => e = .returned (.bool false) ∧ Below w.heap.size w w' := by
  have hu33 := Tryd.underlying33
  have hu31 := Tryd.underlying31
  have HB := Aside0.mk (Below.refl w.heap.size w)
  have E0 := Aside0.mk e0
  clear e0
  go_enter Tryd.func14, Tryd.ntmps14
  go_upto_region 1 with (first
    | ((with_reducible refine gate_dst (N := 1) rfl ?_); refine box_event ?hg (N := 1) ?hd (cs := #[.int .i64 a0_0, .int .i64 a0_1, .int .i64 0, .int .i64 a0_3, .int .i64 a0_4, .int .i64 a0_5, .int .i64 a0_6, .int .i64 a0_7, .int .i64 a0_8, .int .i64 a0_9, .int .i64 a0_10, .int .i64 a0_11]) (t := 33) ?hr ?_; (case hd => rfl); (case hg => rfl); (case hr => first | (go_simp; done) | (go_simp; rfl)); intro gb hg w1 hbox hb; have B1 := Aside0.mk (below_step HB.out hb); have BK := Aside0.mk hbox; clear hb hbox hg; obtain ⟨⟨hcz_0, hcz_1, hcz_2, hcz_3, hcz_4, hcz_5, hcz_6, hcz_7, hcz_8, hcz_9, hcz_10, hcz_11⟩, hfz_0, hfz_1, hfz_2, hfz_3, hfz_4, hfz_5, hfz_6, hfz_7, hfz_8, hfz_9, hfz_10, hfz_11⟩ := cells12 BK.out))
  refine wp_region_lit ?_
  simp only [List.append_eq, List.cons_append, List.nil_append]
  go_wp2_with (first
    | (go_at_call 25; (with_reducible refine (impl_okPrefix.calls a0_3 a0_4 _ _ E0.out).mono ?_); rintro e w2 ⟨rfl, hb⟩; have C0 := Aside0.mk (below_step B1.out hb); have K0 := Aside0.mk (blk_below BK.out hb); clear hb; obtain ⟨⟨hcz_0, hcz_1, hcz_2, hcz_3, hcz_4, hcz_5, hcz_6, hcz_7, hcz_8, hcz_9, hcz_10, hcz_11⟩, hfz_0, hfz_1, hfz_2, hfz_3, hfz_4, hfz_5, hfz_6, hfz_7, hfz_8, hfz_9, hfz_10, hfz_11⟩ := cells12 K0.out)
    | (fail))
  go_ret
  exact ⟨by first | rfl | (simp; done) | (simp [*]; done), by first | exact C0.out | (repeat (first | exact C0.out | apply pw_below_drewN | apply below_drew1))⟩
set_option maxHeartbeats 60000000 in
set_option maxRecDepth 100000 in
theorem impl_okRule.q0_call1 (a0_0 a0_1 a0_2 a0_3 a0_4 a0_5 a0_6 a0_7 a0_8 a0_9 a0_10 a0_11 : Int) (w : World) (c0 : decide (1 ≤ a0_0) = true) (c1 : decide (a0_0 ≤ 3) = true) (c2 : decide (1 ≤ a0_1) = true) (c3 : decide (a0_1 ≤ 3) = true) (c4 : decide (0 ≤ a0_11) = true) (c5 : decide (a0_11 ≤ 4) = true) (e0 : impl_okPrefix.f a0_3 a0_4 = some true) (e1 : impl_okPrefix.f a0_7 a0_8 = some false) :
    Calls Tryd.prog 14 #[.agg #[.int .i64 a0_0, .int .i64 a0_1, .int .i64 0, .int .i64 a0_3, .int .i64 a0_4, .int .i64 a0_5, .int .i64 a0_6, .int .i64 a0_7, .int .i64 a0_8, .int .i64 a0_9, .int .i64 a0_10, .int .i64 a0_11]] w fun e w' => e = .returned (.bool false) ∧ Below w.heap.size w w' := by
  have hu33 := Tryd.underlying33
  have hu31 := Tryd.underlying31
  have HB := Aside0.mk (Below.refl w.heap.size w)
  have E0 := Aside0.mk e0
  have E1 := Aside0.mk e1
  clear e0 e1
  go_enter Tryd.func14, Tryd.ntmps14
  go_upto_region 1 with (first
    | ((with_reducible refine gate_dst (N := 1) rfl ?_); refine box_event ?hg (N := 1) ?hd (cs := #[.int .i64 a0_0, .int .i64 a0_1, .int .i64 0, .int .i64 a0_3, .int .i64 a0_4, .int .i64 a0_5, .int .i64 a0_6, .int .i64 a0_7, .int .i64 a0_8, .int .i64 a0_9, .int .i64 a0_10, .int .i64 a0_11]) (t := 33) ?hr ?_; (case hd => rfl); (case hg => rfl); (case hr => first | (go_simp; done) | (go_simp; rfl)); intro gb hg w1 hbox hb; have B1 := Aside0.mk (below_step HB.out hb); have BK := Aside0.mk hbox; clear hb hbox hg; obtain ⟨⟨hcz_0, hcz_1, hcz_2, hcz_3, hcz_4, hcz_5, hcz_6, hcz_7, hcz_8, hcz_9, hcz_10, hcz_11⟩, hfz_0, hfz_1, hfz_2, hfz_3, hfz_4, hfz_5, hfz_6, hfz_7, hfz_8, hfz_9, hfz_10, hfz_11⟩ := cells12 BK.out))
  refine wp_region_lit ?_
  simp only [List.append_eq, List.cons_append, List.nil_append]
  go_wp2_with (first
    | (go_at_call 25; (with_reducible refine (impl_okPrefix.calls a0_3 a0_4 _ _ E0.out).mono ?_); rintro e w2 ⟨rfl, hb⟩; have C0 := Aside0.mk (below_step B1.out hb); have K0 := Aside0.mk (blk_below BK.out hb); clear hb; obtain ⟨⟨hcz_0, hcz_1, hcz_2, hcz_3, hcz_4, hcz_5, hcz_6, hcz_7, hcz_8, hcz_9, hcz_10, hcz_11⟩, hfz_0, hfz_1, hfz_2, hfz_3, hfz_4, hfz_5, hfz_6, hfz_7, hfz_8, hfz_9, hfz_10, hfz_11⟩ := cells12 K0.out)
    | (go_at_call 25; (with_reducible refine (impl_okPrefix.calls a0_7 a0_8 _ _ E1.out).mono ?_); rintro e w2 ⟨rfl, hb⟩; have C1 := Aside0.mk (below_step C0.out hb); have K1 := Aside0.mk (blk_below K0.out hb); clear hb; obtain ⟨⟨hcz_0, hcz_1, hcz_2, hcz_3, hcz_4, hcz_5, hcz_6, hcz_7, hcz_8, hcz_9, hcz_10, hcz_11⟩, hfz_0, hfz_1, hfz_2, hfz_3, hfz_4, hfz_5, hfz_6, hfz_7, hfz_8, hfz_9, hfz_10, hfz_11⟩ := cells12 K1.out)
    | (fail))
  go_ret
  exact ⟨by first | rfl | (simp; done) | (simp [*]; done), by first | exact C1.out | (repeat (first | exact C1.out | apply pw_below_drewN | apply below_drew1))⟩
set_option maxHeartbeats 60000000 in
set_option maxRecDepth 100000 in
theorem impl_okRule.q0_call2 (a0_0 a0_1 a0_2 a0_3 a0_4 a0_5 a0_6 a0_7 a0_8 a0_9 a0_10 a0_11 : Int) (w : World) (c0 : decide (1 ≤ a0_0) = true) (c1 : decide (a0_0 ≤ 3) = true) (c2 : decide (1 ≤ a0_1) = true) (c3 : decide (a0_1 ≤ 3) = true) (c4 : decide (0 ≤ a0_11) = true) (c5 : decide (a0_11 ≤ 4) = true) (e0 : impl_okPrefix.f a0_3 a0_4 = some true) (e1 : impl_okPrefix.f a0_7 a0_8 = some true) (e2 : impl_isPort.f a0_5 = some false) :
    Calls Tryd.prog 14 #[.agg #[.int .i64 a0_0, .int .i64 a0_1, .int .i64 0, .int .i64 a0_3, .int .i64 a0_4, .int .i64 a0_5, .int .i64 a0_6, .int .i64 a0_7, .int .i64 a0_8, .int .i64 a0_9, .int .i64 a0_10, .int .i64 a0_11]] w fun e w' => e = .returned (.bool false) ∧ Below w.heap.size w w' := by
  have hu33 := Tryd.underlying33
  have hu31 := Tryd.underlying31
  have HB := Aside0.mk (Below.refl w.heap.size w)
  have E0 := Aside0.mk e0
  have E1 := Aside0.mk e1
  have E2 := Aside0.mk e2
  clear e0 e1 e2
  go_enter Tryd.func14, Tryd.ntmps14
  go_upto_region 1 with (first
    | ((with_reducible refine gate_dst (N := 1) rfl ?_); refine box_event ?hg (N := 1) ?hd (cs := #[.int .i64 a0_0, .int .i64 a0_1, .int .i64 0, .int .i64 a0_3, .int .i64 a0_4, .int .i64 a0_5, .int .i64 a0_6, .int .i64 a0_7, .int .i64 a0_8, .int .i64 a0_9, .int .i64 a0_10, .int .i64 a0_11]) (t := 33) ?hr ?_; (case hd => rfl); (case hg => rfl); (case hr => first | (go_simp; done) | (go_simp; rfl)); intro gb hg w1 hbox hb; have B1 := Aside0.mk (below_step HB.out hb); have BK := Aside0.mk hbox; clear hb hbox hg; obtain ⟨⟨hcz_0, hcz_1, hcz_2, hcz_3, hcz_4, hcz_5, hcz_6, hcz_7, hcz_8, hcz_9, hcz_10, hcz_11⟩, hfz_0, hfz_1, hfz_2, hfz_3, hfz_4, hfz_5, hfz_6, hfz_7, hfz_8, hfz_9, hfz_10, hfz_11⟩ := cells12 BK.out))
  refine wp_region_lit ?_
  simp only [List.append_eq, List.cons_append, List.nil_append]
  go_wp2_with (first
    | (go_at_call 25; (with_reducible refine (impl_okPrefix.calls a0_3 a0_4 _ _ E0.out).mono ?_); rintro e w2 ⟨rfl, hb⟩; have C0 := Aside0.mk (below_step B1.out hb); have K0 := Aside0.mk (blk_below BK.out hb); clear hb; obtain ⟨⟨hcz_0, hcz_1, hcz_2, hcz_3, hcz_4, hcz_5, hcz_6, hcz_7, hcz_8, hcz_9, hcz_10, hcz_11⟩, hfz_0, hfz_1, hfz_2, hfz_3, hfz_4, hfz_5, hfz_6, hfz_7, hfz_8, hfz_9, hfz_10, hfz_11⟩ := cells12 K0.out)
    | (go_at_call 25; (with_reducible refine (impl_okPrefix.calls a0_7 a0_8 _ _ E1.out).mono ?_); rintro e w2 ⟨rfl, hb⟩; have C1 := Aside0.mk (below_step C0.out hb); have K1 := Aside0.mk (blk_below K0.out hb); clear hb; obtain ⟨⟨hcz_0, hcz_1, hcz_2, hcz_3, hcz_4, hcz_5, hcz_6, hcz_7, hcz_8, hcz_9, hcz_10, hcz_11⟩, hfz_0, hfz_1, hfz_2, hfz_3, hfz_4, hfz_5, hfz_6, hfz_7, hfz_8, hfz_9, hfz_10, hfz_11⟩ := cells12 K1.out)
    | (go_at_call 26; (with_reducible refine (impl_isPort.calls a0_5 _ _ E2.out).mono ?_); rintro e w' ⟨rfl, ⟨nd, rfl⟩⟩)
    | (fail))
  go_ret
  exact ⟨by first | rfl | (simp; done) | (simp [*]; done), by first | exact C1.out | (repeat (first | exact C1.out | apply pw_below_drewN | apply below_drew1))⟩
set_option maxHeartbeats 60000000 in
set_option maxRecDepth 100000 in
theorem impl_okRule.q0_call3 (a0_0 a0_1 a0_2 a0_3 a0_4 a0_5 a0_6 a0_7 a0_8 a0_9 a0_10 a0_11 : Int) (w : World) (c0 : decide (1 ≤ a0_0) = true) (c1 : decide (a0_0 ≤ 3) = true) (c2 : decide (1 ≤ a0_1) = true) (c3 : decide (a0_1 ≤ 3) = true) (c4 : decide (0 ≤ a0_11) = true) (c5 : decide (a0_11 ≤ 4) = true) (e0 : impl_okPrefix.f a0_3 a0_4 = some true) (e1 : impl_okPrefix.f a0_7 a0_8 = some true) (e2 : impl_isPort.f a0_5 = some true) (e3 : impl_isPort.f a0_6 = some false) :
    Calls Tryd.prog 14 #[.agg #[.int .i64 a0_0, .int .i64 a0_1, .int .i64 0, .int .i64 a0_3, .int .i64 a0_4, .int .i64 a0_5, .int .i64 a0_6, .int .i64 a0_7, .int .i64 a0_8, .int .i64 a0_9, .int .i64 a0_10, .int .i64 a0_11]] w fun e w' => e = .returned (.bool false) ∧ Below w.heap.size w w' := by
  have hu33 := Tryd.underlying33
  have hu31 := Tryd.underlying31
  have HB := Aside0.mk (Below.refl w.heap.size w)
  have E0 := Aside0.mk e0
  have E1 := Aside0.mk e1
  have E2 := Aside0.mk e2
  have E3 := Aside0.mk e3
  clear e0 e1 e2 e3
  go_enter Tryd.func14, Tryd.ntmps14
  go_upto_region 1 with (first
    | ((with_reducible refine gate_dst (N := 1) rfl ?_); refine box_event ?hg (N := 1) ?hd (cs := #[.int .i64 a0_0, .int .i64 a0_1, .int .i64 0, .int .i64 a0_3, .int .i64 a0_4, .int .i64 a0_5, .int .i64 a0_6, .int .i64 a0_7, .int .i64 a0_8, .int .i64 a0_9, .int .i64 a0_10, .int .i64 a0_11]) (t := 33) ?hr ?_; (case hd => rfl); (case hg => rfl); (case hr => first | (go_simp; done) | (go_simp; rfl)); intro gb hg w1 hbox hb; have B1 := Aside0.mk (below_step HB.out hb); have BK := Aside0.mk hbox; clear hb hbox hg; obtain ⟨⟨hcz_0, hcz_1, hcz_2, hcz_3, hcz_4, hcz_5, hcz_6, hcz_7, hcz_8, hcz_9, hcz_10, hcz_11⟩, hfz_0, hfz_1, hfz_2, hfz_3, hfz_4, hfz_5, hfz_6, hfz_7, hfz_8, hfz_9, hfz_10, hfz_11⟩ := cells12 BK.out))
  refine wp_region_lit ?_
  simp only [List.append_eq, List.cons_append, List.nil_append]
  go_wp2_with (first
    | (go_at_call 25; (with_reducible refine (impl_okPrefix.calls a0_3 a0_4 _ _ E0.out).mono ?_); rintro e w2 ⟨rfl, hb⟩; have C0 := Aside0.mk (below_step B1.out hb); have K0 := Aside0.mk (blk_below BK.out hb); clear hb; obtain ⟨⟨hcz_0, hcz_1, hcz_2, hcz_3, hcz_4, hcz_5, hcz_6, hcz_7, hcz_8, hcz_9, hcz_10, hcz_11⟩, hfz_0, hfz_1, hfz_2, hfz_3, hfz_4, hfz_5, hfz_6, hfz_7, hfz_8, hfz_9, hfz_10, hfz_11⟩ := cells12 K0.out)
    | (go_at_call 25; (with_reducible refine (impl_okPrefix.calls a0_7 a0_8 _ _ E1.out).mono ?_); rintro e w2 ⟨rfl, hb⟩; have C1 := Aside0.mk (below_step C0.out hb); have K1 := Aside0.mk (blk_below K0.out hb); clear hb; obtain ⟨⟨hcz_0, hcz_1, hcz_2, hcz_3, hcz_4, hcz_5, hcz_6, hcz_7, hcz_8, hcz_9, hcz_10, hcz_11⟩, hfz_0, hfz_1, hfz_2, hfz_3, hfz_4, hfz_5, hfz_6, hfz_7, hfz_8, hfz_9, hfz_10, hfz_11⟩ := cells12 K1.out)
    | (go_at_call 26; (with_reducible refine (impl_isPort.calls a0_5 _ _ E2.out).mono ?_); rintro e w' ⟨rfl, ⟨nd, rfl⟩⟩)
    | (go_at_call 26; (with_reducible refine (impl_isPort.calls a0_6 _ _ E3.out).mono ?_); rintro e w' ⟨rfl, ⟨nd, rfl⟩⟩)
    | (fail))
  go_ret
  exact ⟨by first | rfl | (simp; done) | (simp [*]; done), by first | exact C1.out | (repeat (first | exact C1.out | apply pw_below_drewN | apply below_drew1))⟩
set_option maxHeartbeats 60000000 in
set_option maxRecDepth 100000 in
theorem impl_okRule.q0_call4 (a0_0 a0_1 a0_2 a0_3 a0_4 a0_5 a0_6 a0_7 a0_8 a0_9 a0_10 a0_11 : Int) (w : World) (c0 : decide (1 ≤ a0_0) = true) (c1 : decide (a0_0 ≤ 3) = true) (c2 : decide (1 ≤ a0_1) = true) (c3 : decide (a0_1 ≤ 3) = true) (c4 : decide (0 ≤ a0_11) = true) (c5 : decide (a0_11 ≤ 4) = true) (e0 : impl_okPrefix.f a0_3 a0_4 = some true) (e1 : impl_okPrefix.f a0_7 a0_8 = some true) (e2 : impl_isPort.f a0_5 = some true) (e3 : impl_isPort.f a0_6 = some true) (e4 : impl_isPort.f a0_9 = some false) :
    Calls Tryd.prog 14 #[.agg #[.int .i64 a0_0, .int .i64 a0_1, .int .i64 0, .int .i64 a0_3, .int .i64 a0_4, .int .i64 a0_5, .int .i64 a0_6, .int .i64 a0_7, .int .i64 a0_8, .int .i64 a0_9, .int .i64 a0_10, .int .i64 a0_11]] w fun e w' => e = .returned (.bool false) ∧ Below w.heap.size w w' := by
  have hu33 := Tryd.underlying33
  have hu31 := Tryd.underlying31
  have HB := Aside0.mk (Below.refl w.heap.size w)
  have E0 := Aside0.mk e0
  have E1 := Aside0.mk e1
  have E2 := Aside0.mk e2
  have E3 := Aside0.mk e3
  have E4 := Aside0.mk e4
  clear e0 e1 e2 e3 e4
  go_enter Tryd.func14, Tryd.ntmps14
  go_upto_region 1 with (first
    | ((with_reducible refine gate_dst (N := 1) rfl ?_); refine box_event ?hg (N := 1) ?hd (cs := #[.int .i64 a0_0, .int .i64 a0_1, .int .i64 0, .int .i64 a0_3, .int .i64 a0_4, .int .i64 a0_5, .int .i64 a0_6, .int .i64 a0_7, .int .i64 a0_8, .int .i64 a0_9, .int .i64 a0_10, .int .i64 a0_11]) (t := 33) ?hr ?_; (case hd => rfl); (case hg => rfl); (case hr => first | (go_simp; done) | (go_simp; rfl)); intro gb hg w1 hbox hb; have B1 := Aside0.mk (below_step HB.out hb); have BK := Aside0.mk hbox; clear hb hbox hg; obtain ⟨⟨hcz_0, hcz_1, hcz_2, hcz_3, hcz_4, hcz_5, hcz_6, hcz_7, hcz_8, hcz_9, hcz_10, hcz_11⟩, hfz_0, hfz_1, hfz_2, hfz_3, hfz_4, hfz_5, hfz_6, hfz_7, hfz_8, hfz_9, hfz_10, hfz_11⟩ := cells12 BK.out))
  refine wp_region_lit ?_
  simp only [List.append_eq, List.cons_append, List.nil_append]
  go_wp2_with (first
    | (go_at_call 25; (with_reducible refine (impl_okPrefix.calls a0_3 a0_4 _ _ E0.out).mono ?_); rintro e w2 ⟨rfl, hb⟩; have C0 := Aside0.mk (below_step B1.out hb); have K0 := Aside0.mk (blk_below BK.out hb); clear hb; obtain ⟨⟨hcz_0, hcz_1, hcz_2, hcz_3, hcz_4, hcz_5, hcz_6, hcz_7, hcz_8, hcz_9, hcz_10, hcz_11⟩, hfz_0, hfz_1, hfz_2, hfz_3, hfz_4, hfz_5, hfz_6, hfz_7, hfz_8, hfz_9, hfz_10, hfz_11⟩ := cells12 K0.out)
    | (go_at_call 25; (with_reducible refine (impl_okPrefix.calls a0_7 a0_8 _ _ E1.out).mono ?_); rintro e w2 ⟨rfl, hb⟩; have C1 := Aside0.mk (below_step C0.out hb); have K1 := Aside0.mk (blk_below K0.out hb); clear hb; obtain ⟨⟨hcz_0, hcz_1, hcz_2, hcz_3, hcz_4, hcz_5, hcz_6, hcz_7, hcz_8, hcz_9, hcz_10, hcz_11⟩, hfz_0, hfz_1, hfz_2, hfz_3, hfz_4, hfz_5, hfz_6, hfz_7, hfz_8, hfz_9, hfz_10, hfz_11⟩ := cells12 K1.out)
    | (go_at_call 26; (with_reducible refine (impl_isPort.calls a0_5 _ _ E2.out).mono ?_); rintro e w' ⟨rfl, ⟨nd, rfl⟩⟩)
    | (go_at_call 26; (with_reducible refine (impl_isPort.calls a0_6 _ _ E3.out).mono ?_); rintro e w' ⟨rfl, ⟨nd, rfl⟩⟩)
    | (go_at_call 26; (with_reducible refine (impl_isPort.calls a0_9 _ _ E4.out).mono ?_); rintro e w' ⟨rfl, ⟨nd, rfl⟩⟩)
    | (fail))
  go_ret
  exact ⟨by first | rfl | (simp; done) | (simp [*]; done), by first | exact C1.out | (repeat (first | exact C1.out | apply pw_below_drewN | apply below_drew1))⟩
set_option maxHeartbeats 60000000 in
set_option maxRecDepth 100000 in
theorem impl_okRule.q0_call5 (a0_0 a0_1 a0_2 a0_3 a0_4 a0_5 a0_6 a0_7 a0_8 a0_9 a0_10 a0_11 : Int) (w : World) (c0 : decide (1 ≤ a0_0) = true) (c1 : decide (a0_0 ≤ 3) = true) (c2 : decide (1 ≤ a0_1) = true) (c3 : decide (a0_1 ≤ 3) = true) (c4 : decide (0 ≤ a0_11) = true) (c5 : decide (a0_11 ≤ 4) = true) (e0 : impl_okPrefix.f a0_3 a0_4 = some true) (e1 : impl_okPrefix.f a0_7 a0_8 = some true) (e2 : impl_isPort.f a0_5 = some true) (e3 : impl_isPort.f a0_6 = some true) (e4 : impl_isPort.f a0_9 = some true) (e5 : impl_isPort.f a0_10 = some false) :
    Calls Tryd.prog 14 #[.agg #[.int .i64 a0_0, .int .i64 a0_1, .int .i64 0, .int .i64 a0_3, .int .i64 a0_4, .int .i64 a0_5, .int .i64 a0_6, .int .i64 a0_7, .int .i64 a0_8, .int .i64 a0_9, .int .i64 a0_10, .int .i64 a0_11]] w fun e w' => e = .returned (.bool false) ∧ Below w.heap.size w w' := by
  have hu33 := Tryd.underlying33
  have hu31 := Tryd.underlying31
  have HB := Aside0.mk (Below.refl w.heap.size w)
  have E0 := Aside0.mk e0
  have E1 := Aside0.mk e1
  have E2 := Aside0.mk e2
  have E3 := Aside0.mk e3
  have E4 := Aside0.mk e4
  have E5 := Aside0.mk e5
  clear e0 e1 e2 e3 e4 e5
  go_enter Tryd.func14, Tryd.ntmps14
  go_upto_region 1 with (first
    | ((with_reducible refine gate_dst (N := 1) rfl ?_); refine box_event ?hg (N := 1) ?hd (cs := #[.int .i64 a0_0, .int .i64 a0_1, .int .i64 0, .int .i64 a0_3, .int .i64 a0_4, .int .i64 a0_5, .int .i64 a0_6, .int .i64 a0_7, .int .i64 a0_8, .int .i64 a0_9, .int .i64 a0_10, .int .i64 a0_11]) (t := 33) ?hr ?_; (case hd => rfl); (case hg => rfl); (case hr => first | (go_simp; done) | (go_simp; rfl)); intro gb hg w1 hbox hb; have B1 := Aside0.mk (below_step HB.out hb); have BK := Aside0.mk hbox; clear hb hbox hg; obtain ⟨⟨hcz_0, hcz_1, hcz_2, hcz_3, hcz_4, hcz_5, hcz_6, hcz_7, hcz_8, hcz_9, hcz_10, hcz_11⟩, hfz_0, hfz_1, hfz_2, hfz_3, hfz_4, hfz_5, hfz_6, hfz_7, hfz_8, hfz_9, hfz_10, hfz_11⟩ := cells12 BK.out))
  refine wp_region_lit ?_
  simp only [List.append_eq, List.cons_append, List.nil_append]
  go_wp2_with (first
    | (go_at_call 25; (with_reducible refine (impl_okPrefix.calls a0_3 a0_4 _ _ E0.out).mono ?_); rintro e w2 ⟨rfl, hb⟩; have C0 := Aside0.mk (below_step B1.out hb); have K0 := Aside0.mk (blk_below BK.out hb); clear hb; obtain ⟨⟨hcz_0, hcz_1, hcz_2, hcz_3, hcz_4, hcz_5, hcz_6, hcz_7, hcz_8, hcz_9, hcz_10, hcz_11⟩, hfz_0, hfz_1, hfz_2, hfz_3, hfz_4, hfz_5, hfz_6, hfz_7, hfz_8, hfz_9, hfz_10, hfz_11⟩ := cells12 K0.out)
    | (go_at_call 25; (with_reducible refine (impl_okPrefix.calls a0_7 a0_8 _ _ E1.out).mono ?_); rintro e w2 ⟨rfl, hb⟩; have C1 := Aside0.mk (below_step C0.out hb); have K1 := Aside0.mk (blk_below K0.out hb); clear hb; obtain ⟨⟨hcz_0, hcz_1, hcz_2, hcz_3, hcz_4, hcz_5, hcz_6, hcz_7, hcz_8, hcz_9, hcz_10, hcz_11⟩, hfz_0, hfz_1, hfz_2, hfz_3, hfz_4, hfz_5, hfz_6, hfz_7, hfz_8, hfz_9, hfz_10, hfz_11⟩ := cells12 K1.out)
    | (go_at_call 26; (with_reducible refine (impl_isPort.calls a0_5 _ _ E2.out).mono ?_); rintro e w' ⟨rfl, ⟨nd, rfl⟩⟩)
    | (go_at_call 26; (with_reducible refine (impl_isPort.calls a0_6 _ _ E3.out).mono ?_); rintro e w' ⟨rfl, ⟨nd, rfl⟩⟩)
    | (go_at_call 26; (with_reducible refine (impl_isPort.calls a0_9 _ _ E4.out).mono ?_); rintro e w' ⟨rfl, ⟨nd, rfl⟩⟩)
    | (go_at_call 26; (with_reducible refine (impl_isPort.calls a0_10 _ _ E5.out).mono ?_); rintro e w' ⟨rfl, ⟨nd, rfl⟩⟩)
    | (fail))
  go_ret
  exact ⟨by first | rfl | (simp; done) | (simp [*]; done), by first | exact C1.out | (repeat (first | exact C1.out | apply pw_below_drewN | apply below_drew1))⟩
set_option maxHeartbeats 60000000 in
set_option maxRecDepth 100000 in
theorem impl_okRule.q0_cmp0 (a0_0 a0_1 a0_2 a0_3 a0_4 a0_5 a0_6 a0_7 a0_8 a0_9 a0_10 a0_11 : Int) (w : World) (c0 : decide (1 ≤ a0_0) = true) (c1 : decide (a0_0 ≤ 3) = true) (c2 : decide (1 ≤ a0_1) = true) (c3 : decide (a0_1 ≤ 3) = true) (c4 : decide (0 ≤ a0_11) = true) (c5 : decide (a0_11 ≤ 4) = true) (e0 : impl_okPrefix.f a0_3 a0_4 = some true) (e1 : impl_okPrefix.f a0_7 a0_8 = some true) (e2 : impl_isPort.f a0_5 = some true) (e3 : impl_isPort.f a0_6 = some true) (e4 : impl_isPort.f a0_9 = some true) (e5 : impl_isPort.f a0_10 = some true) (d0 : decide (a0_5 ≤ a0_6) = false) :
    Calls Tryd.prog 14 #[.agg #[.int .i64 a0_0, .int .i64 a0_1, .int .i64 0, .int .i64 a0_3, .int .i64 a0_4, .int .i64 a0_5, .int .i64 a0_6, .int .i64 a0_7, .int .i64 a0_8, .int .i64 a0_9, .int .i64 a0_10, .int .i64 a0_11]] w fun e w' => e = .returned (.bool false) ∧ Below w.heap.size w w' := by
  have hu33 := Tryd.underlying33
  have hu31 := Tryd.underlying31
  have HB := Aside0.mk (Below.refl w.heap.size w)
  have E0 := Aside0.mk e0
  have E1 := Aside0.mk e1
  have E2 := Aside0.mk e2
  have E3 := Aside0.mk e3
  have E4 := Aside0.mk e4
  have E5 := Aside0.mk e5
  clear e0 e1 e2 e3 e4 e5
  go_enter Tryd.func14, Tryd.ntmps14
  go_upto_region 1 with (first
    | ((with_reducible refine gate_dst (N := 1) rfl ?_); refine box_event ?hg (N := 1) ?hd (cs := #[.int .i64 a0_0, .int .i64 a0_1, .int .i64 0, .int .i64 a0_3, .int .i64 a0_4, .int .i64 a0_5, .int .i64 a0_6, .int .i64 a0_7, .int .i64 a0_8, .int .i64 a0_9, .int .i64 a0_10, .int .i64 a0_11]) (t := 33) ?hr ?_; (case hd => rfl); (case hg => rfl); (case hr => first | (go_simp; done) | (go_simp; rfl)); intro gb hg w1 hbox hb; have B1 := Aside0.mk (below_step HB.out hb); have BK := Aside0.mk hbox; clear hb hbox hg; obtain ⟨⟨hcz_0, hcz_1, hcz_2, hcz_3, hcz_4, hcz_5, hcz_6, hcz_7, hcz_8, hcz_9, hcz_10, hcz_11⟩, hfz_0, hfz_1, hfz_2, hfz_3, hfz_4, hfz_5, hfz_6, hfz_7, hfz_8, hfz_9, hfz_10, hfz_11⟩ := cells12 BK.out))
  refine wp_region_lit ?_
  simp only [List.append_eq, List.cons_append, List.nil_append]
  go_wp2_with (first
    | (go_at_call 25; (with_reducible refine (impl_okPrefix.calls a0_3 a0_4 _ _ E0.out).mono ?_); rintro e w2 ⟨rfl, hb⟩; have C0 := Aside0.mk (below_step B1.out hb); have K0 := Aside0.mk (blk_below BK.out hb); clear hb; obtain ⟨⟨hcz_0, hcz_1, hcz_2, hcz_3, hcz_4, hcz_5, hcz_6, hcz_7, hcz_8, hcz_9, hcz_10, hcz_11⟩, hfz_0, hfz_1, hfz_2, hfz_3, hfz_4, hfz_5, hfz_6, hfz_7, hfz_8, hfz_9, hfz_10, hfz_11⟩ := cells12 K0.out)
    | (go_at_call 25; (with_reducible refine (impl_okPrefix.calls a0_7 a0_8 _ _ E1.out).mono ?_); rintro e w2 ⟨rfl, hb⟩; have C1 := Aside0.mk (below_step C0.out hb); have K1 := Aside0.mk (blk_below K0.out hb); clear hb; obtain ⟨⟨hcz_0, hcz_1, hcz_2, hcz_3, hcz_4, hcz_5, hcz_6, hcz_7, hcz_8, hcz_9, hcz_10, hcz_11⟩, hfz_0, hfz_1, hfz_2, hfz_3, hfz_4, hfz_5, hfz_6, hfz_7, hfz_8, hfz_9, hfz_10, hfz_11⟩ := cells12 K1.out)
    | (go_at_call 26; (with_reducible refine (impl_isPort.calls a0_5 _ _ E2.out).mono ?_); rintro e w' ⟨rfl, ⟨nd, rfl⟩⟩)
    | (go_at_call 26; (with_reducible refine (impl_isPort.calls a0_6 _ _ E3.out).mono ?_); rintro e w' ⟨rfl, ⟨nd, rfl⟩⟩)
    | (go_at_call 26; (with_reducible refine (impl_isPort.calls a0_9 _ _ E4.out).mono ?_); rintro e w' ⟨rfl, ⟨nd, rfl⟩⟩)
    | (go_at_call 26; (with_reducible refine (impl_isPort.calls a0_10 _ _ E5.out).mono ?_); rintro e w' ⟨rfl, ⟨nd, rfl⟩⟩)
    | (fail))
  go_ret
  exact ⟨by first | rfl | (simp; done) | (simp [*]; done), by first | exact C1.out | (repeat (first | exact C1.out | apply pw_below_drewN | apply below_drew1))⟩
set_option maxHeartbeats 60000000 in
set_option maxRecDepth 100000 in
theorem impl_okRule.q0_cmp1 (a0_0 a0_1 a0_2 a0_3 a0_4 a0_5 a0_6 a0_7 a0_8 a0_9 a0_10 a0_11 : Int) (w : World) (c0 : decide (1 ≤ a0_0) = true) (c1 : decide (a0_0 ≤ 3) = true) (c2 : decide (1 ≤ a0_1) = true) (c3 : decide (a0_1 ≤ 3) = true) (c4 : decide (0 ≤ a0_11) = true) (c5 : decide (a0_11 ≤ 4) = true) (e0 : impl_okPrefix.f a0_3 a0_4 = some true) (e1 : impl_okPrefix.f a0_7 a0_8 = some true) (e2 : impl_isPort.f a0_5 = some true) (e3 : impl_isPort.f a0_6 = some true) (e4 : impl_isPort.f a0_9 = some true) (e5 : impl_isPort.f a0_10 = some true) (d0 : decide (a0_5 ≤ a0_6) = true) (d1 : decide (a0_9 ≤ a0_10) = false) :
    Calls Tryd.prog 14 #[.agg #[.int .i64 a0_0, .int .i64 a0_1, .int .i64 0, .int .i64 a0_3, .int .i64 a0_4, .int .i64 a0_5, .int .i64 a0_6, .int .i64 a0_7, .int .i64 a0_8, .int .i64 a0_9, .int .i64 a0_10, .int .i64 a0_11]] w fun e w' => e = .returned (.bool false) ∧ Below w.heap.size w w' := by
  have hu33 := Tryd.underlying33
  have hu31 := Tryd.underlying31
  have HB := Aside0.mk (Below.refl w.heap.size w)
  have E0 := Aside0.mk e0
  have E1 := Aside0.mk e1
  have E2 := Aside0.mk e2
  have E3 := Aside0.mk e3
  have E4 := Aside0.mk e4
  have E5 := Aside0.mk e5
  clear e0 e1 e2 e3 e4 e5
  go_enter Tryd.func14, Tryd.ntmps14
  go_upto_region 1 with (first
    | ((with_reducible refine gate_dst (N := 1) rfl ?_); refine box_event ?hg (N := 1) ?hd (cs := #[.int .i64 a0_0, .int .i64 a0_1, .int .i64 0, .int .i64 a0_3, .int .i64 a0_4, .int .i64 a0_5, .int .i64 a0_6, .int .i64 a0_7, .int .i64 a0_8, .int .i64 a0_9, .int .i64 a0_10, .int .i64 a0_11]) (t := 33) ?hr ?_; (case hd => rfl); (case hg => rfl); (case hr => first | (go_simp; done) | (go_simp; rfl)); intro gb hg w1 hbox hb; have B1 := Aside0.mk (below_step HB.out hb); have BK := Aside0.mk hbox; clear hb hbox hg; obtain ⟨⟨hcz_0, hcz_1, hcz_2, hcz_3, hcz_4, hcz_5, hcz_6, hcz_7, hcz_8, hcz_9, hcz_10, hcz_11⟩, hfz_0, hfz_1, hfz_2, hfz_3, hfz_4, hfz_5, hfz_6, hfz_7, hfz_8, hfz_9, hfz_10, hfz_11⟩ := cells12 BK.out))
  refine wp_region_lit ?_
  simp only [List.append_eq, List.cons_append, List.nil_append]
  go_wp2_with (first
    | (go_at_call 25; (with_reducible refine (impl_okPrefix.calls a0_3 a0_4 _ _ E0.out).mono ?_); rintro e w2 ⟨rfl, hb⟩; have C0 := Aside0.mk (below_step B1.out hb); have K0 := Aside0.mk (blk_below BK.out hb); clear hb; obtain ⟨⟨hcz_0, hcz_1, hcz_2, hcz_3, hcz_4, hcz_5, hcz_6, hcz_7, hcz_8, hcz_9, hcz_10, hcz_11⟩, hfz_0, hfz_1, hfz_2, hfz_3, hfz_4, hfz_5, hfz_6, hfz_7, hfz_8, hfz_9, hfz_10, hfz_11⟩ := cells12 K0.out)
    | (go_at_call 25; (with_reducible refine (impl_okPrefix.calls a0_7 a0_8 _ _ E1.out).mono ?_); rintro e w2 ⟨rfl, hb⟩; have C1 := Aside0.mk (below_step C0.out hb); have K1 := Aside0.mk (blk_below K0.out hb); clear hb; obtain ⟨⟨hcz_0, hcz_1, hcz_2, hcz_3, hcz_4, hcz_5, hcz_6, hcz_7, hcz_8, hcz_9, hcz_10, hcz_11⟩, hfz_0, hfz_1, hfz_2, hfz_3, hfz_4, hfz_5, hfz_6, hfz_7, hfz_8, hfz_9, hfz_10, hfz_11⟩ := cells12 K1.out)
    | (go_at_call 26; (with_reducible refine (impl_isPort.calls a0_5 _ _ E2.out).mono ?_); rintro e w' ⟨rfl, ⟨nd, rfl⟩⟩)
    | (go_at_call 26; (with_reducible refine (impl_isPort.calls a0_6 _ _ E3.out).mono ?_); rintro e w' ⟨rfl, ⟨nd, rfl⟩⟩)
    | (go_at_call 26; (with_reducible refine (impl_isPort.calls a0_9 _ _ E4.out).mono ?_); rintro e w' ⟨rfl, ⟨nd, rfl⟩⟩)
    | (go_at_call 26; (with_reducible refine (impl_isPort.calls a0_10 _ _ E5.out).mono ?_); rintro e w' ⟨rfl, ⟨nd, rfl⟩⟩)
    | (fail))
  go_ret
  exact ⟨by first | rfl | (simp; done) | (simp [*]; done), by first | exact C1.out | (repeat (first | exact C1.out | apply pw_below_drewN | apply below_drew1))⟩
set_option maxHeartbeats 60000000 in
set_option maxRecDepth 100000 in
theorem impl_okRule.q0_end0 (a0_0 a0_1 a0_2 a0_3 a0_4 a0_5 a0_6 a0_7 a0_8 a0_9 a0_10 a0_11 : Int) (w : World) (c0 : decide (1 ≤ a0_0) = true) (c1 : decide (a0_0 ≤ 3) = true) (c2 : decide (1 ≤ a0_1) = true) (c3 : decide (a0_1 ≤ 3) = true) (c4 : decide (0 ≤ a0_11) = true) (c5 : decide (a0_11 ≤ 4) = true) (e0 : impl_okPrefix.f a0_3 a0_4 = some true) (e1 : impl_okPrefix.f a0_7 a0_8 = some true) (e2 : impl_isPort.f a0_5 = some true) (e3 : impl_isPort.f a0_6 = some true) (e4 : impl_isPort.f a0_9 = some true) (e5 : impl_isPort.f a0_10 = some true) (d0 : decide (a0_5 ≤ a0_6) = true) (d1 : decide (a0_9 ≤ a0_10) = true) (n0 : (a0_5 == 0) = false) :
    Calls Tryd.prog 14 #[.agg #[.int .i64 a0_0, .int .i64 a0_1, .int .i64 0, .int .i64 a0_3, .int .i64 a0_4, .int .i64 a0_5, .int .i64 a0_6, .int .i64 a0_7, .int .i64 a0_8, .int .i64 a0_9, .int .i64 a0_10, .int .i64 a0_11]] w fun e w' => e = .returned (.bool false) ∧ Below w.heap.size w w' := by
  have hu33 := Tryd.underlying33
  have hu31 := Tryd.underlying31
  have HB := Aside0.mk (Below.refl w.heap.size w)
  have E0 := Aside0.mk e0
  have E1 := Aside0.mk e1
  have E2 := Aside0.mk e2
  have E3 := Aside0.mk e3
  have E4 := Aside0.mk e4
  have E5 := Aside0.mk e5
  clear e0 e1 e2 e3 e4 e5
  go_enter Tryd.func14, Tryd.ntmps14
  go_upto_region 1 with (first
    | ((with_reducible refine gate_dst (N := 1) rfl ?_); refine box_event ?hg (N := 1) ?hd (cs := #[.int .i64 a0_0, .int .i64 a0_1, .int .i64 0, .int .i64 a0_3, .int .i64 a0_4, .int .i64 a0_5, .int .i64 a0_6, .int .i64 a0_7, .int .i64 a0_8, .int .i64 a0_9, .int .i64 a0_10, .int .i64 a0_11]) (t := 33) ?hr ?_; (case hd => rfl); (case hg => rfl); (case hr => first | (go_simp; done) | (go_simp; rfl)); intro gb hg w1 hbox hb; have B1 := Aside0.mk (below_step HB.out hb); have BK := Aside0.mk hbox; clear hb hbox hg; obtain ⟨⟨hcz_0, hcz_1, hcz_2, hcz_3, hcz_4, hcz_5, hcz_6, hcz_7, hcz_8, hcz_9, hcz_10, hcz_11⟩, hfz_0, hfz_1, hfz_2, hfz_3, hfz_4, hfz_5, hfz_6, hfz_7, hfz_8, hfz_9, hfz_10, hfz_11⟩ := cells12 BK.out))
  refine wp_region_lit ?_
  simp only [List.append_eq, List.cons_append, List.nil_append]
  go_wp2_with (first
    | (go_at_call 25; (with_reducible refine (impl_okPrefix.calls a0_3 a0_4 _ _ E0.out).mono ?_); rintro e w2 ⟨rfl, hb⟩; have C0 := Aside0.mk (below_step B1.out hb); have K0 := Aside0.mk (blk_below BK.out hb); clear hb; obtain ⟨⟨hcz_0, hcz_1, hcz_2, hcz_3, hcz_4, hcz_5, hcz_6, hcz_7, hcz_8, hcz_9, hcz_10, hcz_11⟩, hfz_0, hfz_1, hfz_2, hfz_3, hfz_4, hfz_5, hfz_6, hfz_7, hfz_8, hfz_9, hfz_10, hfz_11⟩ := cells12 K0.out)
    | (go_at_call 25; (with_reducible refine (impl_okPrefix.calls a0_7 a0_8 _ _ E1.out).mono ?_); rintro e w2 ⟨rfl, hb⟩; have C1 := Aside0.mk (below_step C0.out hb); have K1 := Aside0.mk (blk_below K0.out hb); clear hb; obtain ⟨⟨hcz_0, hcz_1, hcz_2, hcz_3, hcz_4, hcz_5, hcz_6, hcz_7, hcz_8, hcz_9, hcz_10, hcz_11⟩, hfz_0, hfz_1, hfz_2, hfz_3, hfz_4, hfz_5, hfz_6, hfz_7, hfz_8, hfz_9, hfz_10, hfz_11⟩ := cells12 K1.out)
    | (go_at_call 26; (with_reducible refine (impl_isPort.calls a0_5 _ _ E2.out).mono ?_); rintro e w' ⟨rfl, ⟨nd, rfl⟩⟩)
    | (go_at_call 26; (with_reducible refine (impl_isPort.calls a0_6 _ _ E3.out).mono ?_); rintro e w' ⟨rfl, ⟨nd, rfl⟩⟩)
    | (go_at_call 26; (with_reducible refine (impl_isPort.calls a0_9 _ _ E4.out).mono ?_); rintro e w' ⟨rfl, ⟨nd, rfl⟩⟩)
    | (go_at_call 26; (with_reducible refine (impl_isPort.calls a0_10 _ _ E5.out).mono ?_); rintro e w' ⟨rfl, ⟨nd, rfl⟩⟩)
    | (fail))
  go_ret
  exact ⟨by first | rfl | (simp; done) | (simp [*]; done), by first | exact C1.out | (repeat (first | exact C1.out | apply pw_below_drewN | apply below_drew1))⟩
set_option maxHeartbeats 60000000 in
set_option maxRecDepth 100000 in
theorem impl_okRule.q0_end1 (a0_0 a0_1 a0_2 a0_3 a0_4 a0_5 a0_6 a0_7 a0_8 a0_9 a0_10 a0_11 : Int) (w : World) (c0 : decide (1 ≤ a0_0) = true) (c1 : decide (a0_0 ≤ 3) = true) (c2 : decide (1 ≤ a0_1) = true) (c3 : decide (a0_1 ≤ 3) = true) (c4 : decide (0 ≤ a0_11) = true) (c5 : decide (a0_11 ≤ 4) = true) (e0 : impl_okPrefix.f a0_3 a0_4 = some true) (e1 : impl_okPrefix.f a0_7 a0_8 = some true) (e2 : impl_isPort.f a0_5 = some true) (e3 : impl_isPort.f a0_6 = some true) (e4 : impl_isPort.f a0_9 = some true) (e5 : impl_isPort.f a0_10 = some true) (d0 : decide (a0_5 ≤ a0_6) = true) (d1 : decide (a0_9 ≤ a0_10) = true) (n0 : (a0_5 == 0) = true) (n1 : (a0_6 == 65535) = false) :
    Calls Tryd.prog 14 #[.agg #[.int .i64 a0_0, .int .i64 a0_1, .int .i64 0, .int .i64 a0_3, .int .i64 a0_4, .int .i64 a0_5, .int .i64 a0_6, .int .i64 a0_7, .int .i64 a0_8, .int .i64 a0_9, .int .i64 a0_10, .int .i64 a0_11]] w fun e w' => e = .returned (.bool false) ∧ Below w.heap.size w w' := by
  have hu33 := Tryd.underlying33
  have hu31 := Tryd.underlying31
  have HB := Aside0.mk (Below.refl w.heap.size w)
  have E0 := Aside0.mk e0
  have E1 := Aside0.mk e1
  have E2 := Aside0.mk e2
  have E3 := Aside0.mk e3
  have E4 := Aside0.mk e4
  have E5 := Aside0.mk e5
  clear e0 e1 e2 e3 e4 e5
  go_enter Tryd.func14, Tryd.ntmps14
  go_upto_region 1 with (first
    | ((with_reducible refine gate_dst (N := 1) rfl ?_); refine box_event ?hg (N := 1) ?hd (cs := #[.int .i64 a0_0, .int .i64 a0_1, .int .i64 0, .int .i64 a0_3, .int .i64 a0_4, .int .i64 a0_5, .int .i64 a0_6, .int .i64 a0_7, .int .i64 a0_8, .int .i64 a0_9, .int .i64 a0_10, .int .i64 a0_11]) (t := 33) ?hr ?_; (case hd => rfl); (case hg => rfl); (case hr => first | (go_simp; done) | (go_simp; rfl)); intro gb hg w1 hbox hb; have B1 := Aside0.mk (below_step HB.out hb); have BK := Aside0.mk hbox; clear hb hbox hg; obtain ⟨⟨hcz_0, hcz_1, hcz_2, hcz_3, hcz_4, hcz_5, hcz_6, hcz_7, hcz_8, hcz_9, hcz_10, hcz_11⟩, hfz_0, hfz_1, hfz_2, hfz_3, hfz_4, hfz_5, hfz_6, hfz_7, hfz_8, hfz_9, hfz_10, hfz_11⟩ := cells12 BK.out))
  refine wp_region_lit ?_
  simp only [List.append_eq, List.cons_append, List.nil_append]
  go_wp2_with (first
    | (go_at_call 25; (with_reducible refine (impl_okPrefix.calls a0_3 a0_4 _ _ E0.out).mono ?_); rintro e w2 ⟨rfl, hb⟩; have C0 := Aside0.mk (below_step B1.out hb); have K0 := Aside0.mk (blk_below BK.out hb); clear hb; obtain ⟨⟨hcz_0, hcz_1, hcz_2, hcz_3, hcz_4, hcz_5, hcz_6, hcz_7, hcz_8, hcz_9, hcz_10, hcz_11⟩, hfz_0, hfz_1, hfz_2, hfz_3, hfz_4, hfz_5, hfz_6, hfz_7, hfz_8, hfz_9, hfz_10, hfz_11⟩ := cells12 K0.out)
    | (go_at_call 25; (with_reducible refine (impl_okPrefix.calls a0_7 a0_8 _ _ E1.out).mono ?_); rintro e w2 ⟨rfl, hb⟩; have C1 := Aside0.mk (below_step C0.out hb); have K1 := Aside0.mk (blk_below K0.out hb); clear hb; obtain ⟨⟨hcz_0, hcz_1, hcz_2, hcz_3, hcz_4, hcz_5, hcz_6, hcz_7, hcz_8, hcz_9, hcz_10, hcz_11⟩, hfz_0, hfz_1, hfz_2, hfz_3, hfz_4, hfz_5, hfz_6, hfz_7, hfz_8, hfz_9, hfz_10, hfz_11⟩ := cells12 K1.out)
    | (go_at_call 26; (with_reducible refine (impl_isPort.calls a0_5 _ _ E2.out).mono ?_); rintro e w' ⟨rfl, ⟨nd, rfl⟩⟩)
    | (go_at_call 26; (with_reducible refine (impl_isPort.calls a0_6 _ _ E3.out).mono ?_); rintro e w' ⟨rfl, ⟨nd, rfl⟩⟩)
    | (go_at_call 26; (with_reducible refine (impl_isPort.calls a0_9 _ _ E4.out).mono ?_); rintro e w' ⟨rfl, ⟨nd, rfl⟩⟩)
    | (go_at_call 26; (with_reducible refine (impl_isPort.calls a0_10 _ _ E5.out).mono ?_); rintro e w' ⟨rfl, ⟨nd, rfl⟩⟩)
    | (fail))
  go_ret
  exact ⟨by first | rfl | (simp; done) | (simp [*]; done), by first | exact C1.out | (repeat (first | exact C1.out | apply pw_below_drewN | apply below_drew1))⟩
set_option maxHeartbeats 60000000 in
set_option maxRecDepth 100000 in
theorem impl_okRule.q0_end2 (a0_0 a0_1 a0_2 a0_3 a0_4 a0_5 a0_6 a0_7 a0_8 a0_9 a0_10 a0_11 : Int) (w : World) (c0 : decide (1 ≤ a0_0) = true) (c1 : decide (a0_0 ≤ 3) = true) (c2 : decide (1 ≤ a0_1) = true) (c3 : decide (a0_1 ≤ 3) = true) (c4 : decide (0 ≤ a0_11) = true) (c5 : decide (a0_11 ≤ 4) = true) (e0 : impl_okPrefix.f a0_3 a0_4 = some true) (e1 : impl_okPrefix.f a0_7 a0_8 = some true) (e2 : impl_isPort.f a0_5 = some true) (e3 : impl_isPort.f a0_6 = some true) (e4 : impl_isPort.f a0_9 = some true) (e5 : impl_isPort.f a0_10 = some true) (d0 : decide (a0_5 ≤ a0_6) = true) (d1 : decide (a0_9 ≤ a0_10) = true) (n0 : (a0_5 == 0) = true) (n1 : (a0_6 == 65535) = true) (n2 : (a0_9 == 0) = false) :
    Calls Tryd.prog 14 #[.agg #[.int .i64 a0_0, .int .i64 a0_1, .int .i64 0, .int .i64 a0_3, .int .i64 a0_4, .int .i64 a0_5, .int .i64 a0_6, .int .i64 a0_7, .int .i64 a0_8, .int .i64 a0_9, .int .i64 a0_10, .int .i64 a0_11]] w fun e w' => e = .returned (.bool false) ∧ Below w.heap.size w w' := by
  have hu33 := Tryd.underlying33
  have hu31 := Tryd.underlying31
  have HB := Aside0.mk (Below.refl w.heap.size w)
  have E0 := Aside0.mk e0
  have E1 := Aside0.mk e1
  have E2 := Aside0.mk e2
  have E3 := Aside0.mk e3
  have E4 := Aside0.mk e4
  have E5 := Aside0.mk e5
  clear e0 e1 e2 e3 e4 e5
  go_enter Tryd.func14, Tryd.ntmps14
  go_upto_region 1 with (first
    | ((with_reducible refine gate_dst (N := 1) rfl ?_); refine box_event ?hg (N := 1) ?hd (cs := #[.int .i64 a0_0, .int .i64 a0_1, .int .i64 0, .int .i64 a0_3, .int .i64 a0_4, .int .i64 a0_5, .int .i64 a0_6, .int .i64 a0_7, .int .i64 a0_8, .int .i64 a0_9, .int .i64 a0_10, .int .i64 a0_11]) (t := 33) ?hr ?_; (case hd => rfl); (case hg => rfl); (case hr => first | (go_simp; done) | (go_simp; rfl)); intro gb hg w1 hbox hb; have B1 := Aside0.mk (below_step HB.out hb); have BK := Aside0.mk hbox; clear hb hbox hg; obtain ⟨⟨hcz_0, hcz_1, hcz_2, hcz_3, hcz_4, hcz_5, hcz_6, hcz_7, hcz_8, hcz_9, hcz_10, hcz_11⟩, hfz_0, hfz_1, hfz_2, hfz_3, hfz_4, hfz_5, hfz_6, hfz_7, hfz_8, hfz_9, hfz_10, hfz_11⟩ := cells12 BK.out))
  refine wp_region_lit ?_
  simp only [List.append_eq, List.cons_append, List.nil_append]
  go_wp2_with (first
    | (go_at_call 25; (with_reducible refine (impl_okPrefix.calls a0_3 a0_4 _ _ E0.out).mono ?_); rintro e w2 ⟨rfl, hb⟩; have C0 := Aside0.mk (below_step B1.out hb); have K0 := Aside0.mk (blk_below BK.out hb); clear hb; obtain ⟨⟨hcz_0, hcz_1, hcz_2, hcz_3, hcz_4, hcz_5, hcz_6, hcz_7, hcz_8, hcz_9, hcz_10, hcz_11⟩, hfz_0, hfz_1, hfz_2, hfz_3, hfz_4, hfz_5, hfz_6, hfz_7, hfz_8, hfz_9, hfz_10, hfz_11⟩ := cells12 K0.out)
    | (go_at_call 25; (with_reducible refine (impl_okPrefix.calls a0_7 a0_8 _ _ E1.out).mono ?_); rintro e w2 ⟨rfl, hb⟩; have C1 := Aside0.mk (below_step C0.out hb); have K1 := Aside0.mk (blk_below K0.out hb); clear hb; obtain ⟨⟨hcz_0, hcz_1, hcz_2, hcz_3, hcz_4, hcz_5, hcz_6, hcz_7, hcz_8, hcz_9, hcz_10, hcz_11⟩, hfz_0, hfz_1, hfz_2, hfz_3, hfz_4, hfz_5, hfz_6, hfz_7, hfz_8, hfz_9, hfz_10, hfz_11⟩ := cells12 K1.out)
    | (go_at_call 26; (with_reducible refine (impl_isPort.calls a0_5 _ _ E2.out).mono ?_); rintro e w' ⟨rfl, ⟨nd, rfl⟩⟩)
    | (go_at_call 26; (with_reducible refine (impl_isPort.calls a0_6 _ _ E3.out).mono ?_); rintro e w' ⟨rfl, ⟨nd, rfl⟩⟩)
    | (go_at_call 26; (with_reducible refine (impl_isPort.calls a0_9 _ _ E4.out).mono ?_); rintro e w' ⟨rfl, ⟨nd, rfl⟩⟩)
    | (go_at_call 26; (with_reducible refine (impl_isPort.calls a0_10 _ _ E5.out).mono ?_); rintro e w' ⟨rfl, ⟨nd, rfl⟩⟩)
    | (fail))
  go_ret
  exact ⟨by first | rfl | (simp; done) | (simp [*]; done), by first | exact C1.out | (repeat (first | exact C1.out | apply pw_below_drewN | apply below_drew1))⟩
set_option maxHeartbeats 60000000 in
set_option maxRecDepth 100000 in
theorem impl_okRule.q0_end3 (a0_0 a0_1 a0_2 a0_3 a0_4 a0_5 a0_6 a0_7 a0_8 a0_9 a0_10 a0_11 : Int) (w : World) (c0 : decide (1 ≤ a0_0) = true) (c1 : decide (a0_0 ≤ 3) = true) (c2 : decide (1 ≤ a0_1) = true) (c3 : decide (a0_1 ≤ 3) = true) (c4 : decide (0 ≤ a0_11) = true) (c5 : decide (a0_11 ≤ 4) = true) (e0 : impl_okPrefix.f a0_3 a0_4 = some true) (e1 : impl_okPrefix.f a0_7 a0_8 = some true) (e2 : impl_isPort.f a0_5 = some true) (e3 : impl_isPort.f a0_6 = some true) (e4 : impl_isPort.f a0_9 = some true) (e5 : impl_isPort.f a0_10 = some true) (d0 : decide (a0_5 ≤ a0_6) = true) (d1 : decide (a0_9 ≤ a0_10) = true) (n0 : (a0_5 == 0) = true) (n1 : (a0_6 == 65535) = true) (n2 : (a0_9 == 0) = true) :
    Calls Tryd.prog 14 #[.agg #[.int .i64 a0_0, .int .i64 a0_1, .int .i64 0, .int .i64 a0_3, .int .i64 a0_4, .int .i64 a0_5, .int .i64 a0_6, .int .i64 a0_7, .int .i64 a0_8, .int .i64 a0_9, .int .i64 a0_10, .int .i64 a0_11]] w fun e w' => e = .returned (.bool (a0_10 == 65535)) ∧ Below w.heap.size w w' := by
  have hu33 := Tryd.underlying33
  have hu31 := Tryd.underlying31
  have HB := Aside0.mk (Below.refl w.heap.size w)
  have E0 := Aside0.mk e0
  have E1 := Aside0.mk e1
  have E2 := Aside0.mk e2
  have E3 := Aside0.mk e3
  have E4 := Aside0.mk e4
  have E5 := Aside0.mk e5
  clear e0 e1 e2 e3 e4 e5
  go_enter Tryd.func14, Tryd.ntmps14
  go_upto_region 1 with (first
    | ((with_reducible refine gate_dst (N := 1) rfl ?_); refine box_event ?hg (N := 1) ?hd (cs := #[.int .i64 a0_0, .int .i64 a0_1, .int .i64 0, .int .i64 a0_3, .int .i64 a0_4, .int .i64 a0_5, .int .i64 a0_6, .int .i64 a0_7, .int .i64 a0_8, .int .i64 a0_9, .int .i64 a0_10, .int .i64 a0_11]) (t := 33) ?hr ?_; (case hd => rfl); (case hg => rfl); (case hr => first | (go_simp; done) | (go_simp; rfl)); intro gb hg w1 hbox hb; have B1 := Aside0.mk (below_step HB.out hb); have BK := Aside0.mk hbox; clear hb hbox hg; obtain ⟨⟨hcz_0, hcz_1, hcz_2, hcz_3, hcz_4, hcz_5, hcz_6, hcz_7, hcz_8, hcz_9, hcz_10, hcz_11⟩, hfz_0, hfz_1, hfz_2, hfz_3, hfz_4, hfz_5, hfz_6, hfz_7, hfz_8, hfz_9, hfz_10, hfz_11⟩ := cells12 BK.out))
  refine wp_region_lit ?_
  simp only [List.append_eq, List.cons_append, List.nil_append]
  go_wp2_with (first
    | (go_at_call 25; (with_reducible refine (impl_okPrefix.calls a0_3 a0_4 _ _ E0.out).mono ?_); rintro e w2 ⟨rfl, hb⟩; have C0 := Aside0.mk (below_step B1.out hb); have K0 := Aside0.mk (blk_below BK.out hb); clear hb; obtain ⟨⟨hcz_0, hcz_1, hcz_2, hcz_3, hcz_4, hcz_5, hcz_6, hcz_7, hcz_8, hcz_9, hcz_10, hcz_11⟩, hfz_0, hfz_1, hfz_2, hfz_3, hfz_4, hfz_5, hfz_6, hfz_7, hfz_8, hfz_9, hfz_10, hfz_11⟩ := cells12 K0.out)
    | (go_at_call 25; (with_reducible refine (impl_okPrefix.calls a0_7 a0_8 _ _ E1.out).mono ?_); rintro e w2 ⟨rfl, hb⟩; have C1 := Aside0.mk (below_step C0.out hb); have K1 := Aside0.mk (blk_below K0.out hb); clear hb; obtain ⟨⟨hcz_0, hcz_1, hcz_2, hcz_3, hcz_4, hcz_5, hcz_6, hcz_7, hcz_8, hcz_9, hcz_10, hcz_11⟩, hfz_0, hfz_1, hfz_2, hfz_3, hfz_4, hfz_5, hfz_6, hfz_7, hfz_8, hfz_9, hfz_10, hfz_11⟩ := cells12 K1.out)
    | (go_at_call 26; (with_reducible refine (impl_isPort.calls a0_5 _ _ E2.out).mono ?_); rintro e w' ⟨rfl, ⟨nd, rfl⟩⟩)
    | (go_at_call 26; (with_reducible refine (impl_isPort.calls a0_6 _ _ E3.out).mono ?_); rintro e w' ⟨rfl, ⟨nd, rfl⟩⟩)
    | (go_at_call 26; (with_reducible refine (impl_isPort.calls a0_9 _ _ E4.out).mono ?_); rintro e w' ⟨rfl, ⟨nd, rfl⟩⟩)
    | (go_at_call 26; (with_reducible refine (impl_isPort.calls a0_10 _ _ E5.out).mono ?_); rintro e w' ⟨rfl, ⟨nd, rfl⟩⟩)
    | (fail))
  go_ret
  exact ⟨by first | rfl | (simp; done) | (simp [*]; done), by first | exact C1.out | (repeat (first | exact C1.out | apply pw_below_drewN | apply below_drew1))⟩
set_option maxHeartbeats 60000000 in
set_option maxRecDepth 100000 in
theorem impl_okRule.q1_call0 (a0_0 a0_1 a0_2 a0_3 a0_4 a0_5 a0_6 a0_7 a0_8 a0_9 a0_10 a0_11 : Int) (w : World) (c0 : decide (1 ≤ a0_0) = true) (c1 : decide (a0_0 ≤ 3) = true) (c2 : decide (1 ≤ a0_1) = true) (c3 : decide (a0_1 ≤ 3) = true) (c4 : decide (0 ≤ a0_11) = true) (c5 : decide (a0_11 ≤ 4) = true) (e0 : impl_okPrefix.f a0_3 a0_4 = some false) :
    Calls Tryd.prog 14 #[.agg #[.int .i64 a0_0, .int .i64 a0_1, .int .i64 1, .int .i64 a0_3, .int .i64 a0_4, .int .i64 a0_5, .int .i64 a0_6, .int .i64 a0_7, .int .i64 a0_8, .int .i64 a0_9, .int .i64 a0_10, .int .i64 a0_11]] w fun e w' => e = .returned (.bool false) ∧ Below w.heap.size w w' := by
  have hu33 := Tryd.underlying33
  have hu31 := Tryd.underlying31
  have HB := Aside0.mk (Below.refl w.heap.size w)
  have E0 := Aside0.mk e0
  clear e0
  go_enter Tryd.func14, Tryd.ntmps14
  go_upto_region 1 with (first
    | ((with_reducible refine gate_dst (N := 1) rfl ?_); refine box_event ?hg (N := 1) ?hd (cs := #[.int .i64 a0_0, .int .i64 a0_1, .int .i64 1, .int .i64 a0_3, .int .i64 a0_4, .int .i64 a0_5, .int .i64 a0_6, .int .i64 a0_7, .int .i64 a0_8, .int .i64 a0_9, .int .i64 a0_10, .int .i64 a0_11]) (t := 33) ?hr ?_; (case hd => rfl); (case hg => rfl); (case hr => first | (go_simp; done) | (go_simp; rfl)); intro gb hg w1 hbox hb; have B1 := Aside0.mk (below_step HB.out hb); have BK := Aside0.mk hbox; clear hb hbox hg; obtain ⟨⟨hcz_0, hcz_1, hcz_2, hcz_3, hcz_4, hcz_5, hcz_6, hcz_7, hcz_8, hcz_9, hcz_10, hcz_11⟩, hfz_0, hfz_1, hfz_2, hfz_3, hfz_4, hfz_5, hfz_6, hfz_7, hfz_8, hfz_9, hfz_10, hfz_11⟩ := cells12 BK.out))
  refine wp_region_lit ?_
  simp only [List.append_eq, List.cons_append, List.nil_append]
  go_wp2_with (first
    | (go_at_call 25; (with_reducible refine (impl_okPrefix.calls a0_3 a0_4 _ _ E0.out).mono ?_); rintro e w2 ⟨rfl, hb⟩; have C0 := Aside0.mk (below_step B1.out hb); have K0 := Aside0.mk (blk_below BK.out hb); clear hb; obtain ⟨⟨hcz_0, hcz_1, hcz_2, hcz_3, hcz_4, hcz_5, hcz_6, hcz_7, hcz_8, hcz_9, hcz_10, hcz_11⟩, hfz_0, hfz_1, hfz_2, hfz_3, hfz_4, hfz_5, hfz_6, hfz_7, hfz_8, hfz_9, hfz_10, hfz_11⟩ := cells12 K0.out)
    | (fail))
  go_ret
  exact ⟨by first | rfl | (simp; done) | (simp [*]; done), by first | exact C0.out | (repeat (first | exact C0.out | apply pw_below_drewN | apply below_drew1))⟩
set_option maxHeartbeats 60000000 in
set_option maxRecDepth 100000 in
theorem impl_okRule.q1_call1 (a0_0 a0_1 a0_2 a0_3 a0_4 a0_5 a0_6 a0_7 a0_8 a0_9 a0_10 a0_11 : Int) (w : World) (c0 : decide (1 ≤ a0_0) = true) (c1 : decide (a0_0 ≤ 3) = true) (c2 : decide (1 ≤ a0_1) = true) (c3 : decide (a0_1 ≤ 3) = true) (c4 : decide (0 ≤ a0_11) = true) (c5 : decide (a0_11 ≤ 4) = true) (e0 : impl_okPrefix.f a0_3 a0_4 = some true) (e1 : impl_okPrefix.f a0_7 a0_8 = some false) :
    Calls Tryd.prog 14 #[.agg #[.int .i64 a0_0, .int .i64 a0_1, .int .i64 1, .int .i64 a0_3, .int .i64 a0_4, .int .i64 a0_5, .int .i64 a0_6, .int .i64 a0_7, .int .i64 a0_8, .int .i64 a0_9, .int .i64 a0_10, .int .i64 a0_11]] w fun e w' => e = .returned (.bool false) ∧ Below w.heap.size w w' := by
  have hu33 := Tryd.underlying33
  have hu31 := Tryd.underlying31
  have HB := Aside0.mk (Below.refl w.heap.size w)
  have E0 := Aside0.mk e0
  have E1 := Aside0.mk e1
  clear e0 e1
  go_enter Tryd.func14, Tryd.ntmps14
  go_upto_region 1 with (first
    | ((with_reducible refine gate_dst (N := 1) rfl ?_); refine box_event ?hg (N := 1) ?hd (cs := #[.int .i64 a0_0, .int .i64 a0_1, .int .i64 1, .int .i64 a0_3, .int .i64 a0_4, .int .i64 a0_5, .int .i64 a0_6, .int .i64 a0_7, .int .i64 a0_8, .int .i64 a0_9, .int .i64 a0_10, .int .i64 a0_11]) (t := 33) ?hr ?_; (case hd => rfl); (case hg => rfl); (case hr => first | (go_simp; done) | (go_simp; rfl)); intro gb hg w1 hbox hb; have B1 := Aside0.mk (below_step HB.out hb); have BK := Aside0.mk hbox; clear hb hbox hg; obtain ⟨⟨hcz_0, hcz_1, hcz_2, hcz_3, hcz_4, hcz_5, hcz_6, hcz_7, hcz_8, hcz_9, hcz_10, hcz_11⟩, hfz_0, hfz_1, hfz_2, hfz_3, hfz_4, hfz_5, hfz_6, hfz_7, hfz_8, hfz_9, hfz_10, hfz_11⟩ := cells12 BK.out))
  refine wp_region_lit ?_
  simp only [List.append_eq, List.cons_append, List.nil_append]
  go_wp2_with (first
    | (go_at_call 25; (with_reducible refine (impl_okPrefix.calls a0_3 a0_4 _ _ E0.out).mono ?_); rintro e w2 ⟨rfl, hb⟩; have C0 := Aside0.mk (below_step B1.out hb); have K0 := Aside0.mk (blk_below BK.out hb); clear hb; obtain ⟨⟨hcz_0, hcz_1, hcz_2, hcz_3, hcz_4, hcz_5, hcz_6, hcz_7, hcz_8, hcz_9, hcz_10, hcz_11⟩, hfz_0, hfz_1, hfz_2, hfz_3, hfz_4, hfz_5, hfz_6, hfz_7, hfz_8, hfz_9, hfz_10, hfz_11⟩ := cells12 K0.out)
    | (go_at_call 25; (with_reducible refine (impl_okPrefix.calls a0_7 a0_8 _ _ E1.out).mono ?_); rintro e w2 ⟨rfl, hb⟩; have C1 := Aside0.mk (below_step C0.out hb); have K1 := Aside0.mk (blk_below K0.out hb); clear hb; obtain ⟨⟨hcz_0, hcz_1, hcz_2, hcz_3, hcz_4, hcz_5, hcz_6, hcz_7, hcz_8, hcz_9, hcz_10, hcz_11⟩, hfz_0, hfz_1, hfz_2, hfz_3, hfz_4, hfz_5, hfz_6, hfz_7, hfz_8, hfz_9, hfz_10, hfz_11⟩ := cells12 K1.out)
    | (fail))
  go_ret
  exact ⟨by first | rfl | (simp; done) | (simp [*]; done), by first | exact C1.out | (repeat (first | exact C1.out | apply pw_below_drewN | apply below_drew1))⟩
set_option maxHeartbeats 60000000 in
set_option maxRecDepth 100000 in
theorem impl_okRule.q1_call2 (a0_0 a0_1 a0_2 a0_3 a0_4 a0_5 a0_6 a0_7 a0_8 a0_9 a0_10 a0_11 : Int) (w : World) (c0 : decide (1 ≤ a0_0) = true) (c1 : decide (a0_0 ≤ 3) = true) (c2 : decide (1 ≤ a0_1) = true) (c3 : decide (a0_1 ≤ 3) = true) (c4 : decide (0 ≤ a0_11) = true) (c5 : decide (a0_11 ≤ 4) = true) (e0 : impl_okPrefix.f a0_3 a0_4 = some true) (e1 : impl_okPrefix.f a0_7 a0_8 = some true) (e2 : impl_isPort.f a0_5 = some false) :
    Calls Tryd.prog 14 #[.agg #[.int .i64 a0_0, .int .i64 a0_1, .int .i64 1, .int .i64 a0_3, .int .i64 a0_4, .int .i64 a0_5, .int .i64 a0_6, .int .i64 a0_7, .int .i64 a0_8, .int .i64 a0_9, .int .i64 a0_10, .int .i64 a0_11]] w fun e w' => e = .returned (.bool false) ∧ Below w.heap.size w w' := by
  have hu33 := Tryd.underlying33
  have hu31 := Tryd.underlying31
  have HB := Aside0.mk (Below.refl w.heap.size w)
  have E0 := Aside0.mk e0
  have E1 := Aside0.mk e1
  have E2 := Aside0.mk e2
  clear e0 e1 e2
  go_enter Tryd.func14, Tryd.ntmps14
  go_upto_region 1 with (first
    | ((with_reducible refine gate_dst (N := 1) rfl ?_); refine box_event ?hg (N := 1) ?hd (cs := #[.int .i64 a0_0, .int .i64 a0_1, .int .i64 1, .int .i64 a0_3, .int .i64 a0_4, .int .i64 a0_5, .int .i64 a0_6, .int .i64 a0_7, .int .i64 a0_8, .int .i64 a0_9, .int .i64 a0_10, .int .i64 a0_11]) (t := 33) ?hr ?_; (case hd => rfl); (case hg => rfl); (case hr => first | (go_simp; done) | (go_simp; rfl)); intro gb hg w1 hbox hb; have B1 := Aside0.mk (below_step HB.out hb); have BK := Aside0.mk hbox; clear hb hbox hg; obtain ⟨⟨hcz_0, hcz_1, hcz_2, hcz_3, hcz_4, hcz_5, hcz_6, hcz_7, hcz_8, hcz_9, hcz_10, hcz_11⟩, hfz_0, hfz_1, hfz_2, hfz_3, hfz_4, hfz_5, hfz_6, hfz_7, hfz_8, hfz_9, hfz_10, hfz_11⟩ := cells12 BK.out))
  refine wp_region_lit ?_
  simp only [List.append_eq, List.cons_append, List.nil_append]
  go_wp2_with (first
    | (go_at_call 25; (with_reducible refine (impl_okPrefix.calls a0_3 a0_4 _ _ E0.out).mono ?_); rintro e w2 ⟨rfl, hb⟩; have C0 := Aside0.mk (below_step B1.out hb); have K0 := Aside0.mk (blk_below BK.out hb); clear hb; obtain ⟨⟨hcz_0, hcz_1, hcz_2, hcz_3, hcz_4, hcz_5, hcz_6, hcz_7, hcz_8, hcz_9, hcz_10, hcz_11⟩, hfz_0, hfz_1, hfz_2, hfz_3, hfz_4, hfz_5, hfz_6, hfz_7, hfz_8, hfz_9, hfz_10, hfz_11⟩ := cells12 K0.out)
    | (go_at_call 25; (with_reducible refine (impl_okPrefix.calls a0_7 a0_8 _ _ E1.out).mono ?_); rintro e w2 ⟨rfl, hb⟩; have C1 := Aside0.mk (below_step C0.out hb); have K1 := Aside0.mk (blk_below K0.out hb); clear hb; obtain ⟨⟨hcz_0, hcz_1, hcz_2, hcz_3, hcz_4, hcz_5, hcz_6, hcz_7, hcz_8, hcz_9, hcz_10, hcz_11⟩, hfz_0, hfz_1, hfz_2, hfz_3, hfz_4, hfz_5, hfz_6, hfz_7, hfz_8, hfz_9, hfz_10, hfz_11⟩ := cells12 K1.out)
    | (go_at_call 26; (with_reducible refine (impl_isPort.calls a0_5 _ _ E2.out).mono ?_); rintro e w' ⟨rfl, ⟨nd, rfl⟩⟩)
    | (fail))
  go_ret
  exact ⟨by first | rfl | (simp; done) | (simp [*]; done), by first | exact C1.out | (repeat (first | exact C1.out | apply pw_below_drewN | apply below_drew1))⟩
set_option maxHeartbeats 60000000 in
set_option maxRecDepth 100000 in
theorem impl_okRule.q1_call3 (a0_0 a0_1 a0_2 a0_3 a0_4 a0_5 a0_6 a0_7 a0_8 a0_9 a0_10 a0_11 : Int) (w : World) (c0 : decide (1 ≤ a0_0) = true) (c1 : decide (a0_0 ≤ 3) = true) (c2 : decide (1 ≤ a0_1) = true) (c3 : decide (a0_1 ≤ 3) = true) (c4 : decide (0 ≤ a0_11) = true) (c5 : decide (a0_11 ≤ 4) = true) (e0 : impl_okPrefix.f a0_3 a0_4 = some true) (e1 : impl_okPrefix.f a0_7 a0_8 = some true) (e2 : impl_isPort.f a0_5 = some true) (e3 : impl_isPort.f a0_6 = some false) :
    Calls Tryd.prog 14 #[.agg #[.int .i64 a0_0, .int .i64 a0_1, .int .i64 1, .int .i64 a0_3, .int .i64 a0_4, .int .i64 a0_5, .int .i64 a0_6, .int .i64 a0_7, .int .i64 a0_8, .int .i64 a0_9, .int .i64 a0_10, .int .i64 a0_11]] w fun e w' => e = .returned (.bool false) ∧ Below w.heap.size w w' := by
  have hu33 := Tryd.underlying33
  have hu31 := Tryd.underlying31
  have HB := Aside0.mk (Below.refl w.heap.size w)
  have E0 := Aside0.mk e0
  have E1 := Aside0.mk e1
  have E2 := Aside0.mk e2
  have E3 := Aside0.mk e3
  clear e0 e1 e2 e3
  go_enter Tryd.func14, Tryd.ntmps14
  go_upto_region 1 with (first
    | ((with_reducible refine gate_dst (N := 1) rfl ?_); refine box_event ?hg (N := 1) ?hd (cs := #[.int .i64 a0_0, .int .i64 a0_1, .int .i64 1, .int .i64 a0_3, .int .i64 a0_4, .int .i64 a0_5, .int .i64 a0_6, .int .i64 a0_7, .int .i64 a0_8, .int .i64 a0_9, .int .i64 a0_10, .int .i64 a0_11]) (t := 33) ?hr ?_; (case hd => rfl); (case hg => rfl); (case hr => first | (go_simp; done) | (go_simp; rfl)); intro gb hg w1 hbox hb; have B1 := Aside0.mk (below_step HB.out hb); have BK := Aside0.mk hbox; clear hb hbox hg; obtain ⟨⟨hcz_0, hcz_1, hcz_2, hcz_3, hcz_4, hcz_5, hcz_6, hcz_7, hcz_8, hcz_9, hcz_10, hcz_11⟩, hfz_0, hfz_1, hfz_2, hfz_3, hfz_4, hfz_5, hfz_6, hfz_7, hfz_8, hfz_9, hfz_10, hfz_11⟩ := cells12 BK.out))
  refine wp_region_lit ?_
  simp only [List.append_eq, List.cons_append, List.nil_append]
  go_wp2_with (first
    | (go_at_call 25; (with_reducible refine (impl_okPrefix.calls a0_3 a0_4 _ _ E0.out).mono ?_); rintro e w2 ⟨rfl, hb⟩; have C0 := Aside0.mk (below_step B1.out hb); have K0 := Aside0.mk (blk_below BK.out hb); clear hb; obtain ⟨⟨hcz_0, hcz_1, hcz_2, hcz_3, hcz_4, hcz_5, hcz_6, hcz_7, hcz_8, hcz_9, hcz_10, hcz_11⟩, hfz_0, hfz_1, hfz_2, hfz_3, hfz_4, hfz_5, hfz_6, hfz_7, hfz_8, hfz_9, hfz_10, hfz_11⟩ := cells12 K0.out)
    | (go_at_call 25; (with_reducible refine (impl_okPrefix.calls a0_7 a0_8 _ _ E1.out).mono ?_); rintro e w2 ⟨rfl, hb⟩; have C1 := Aside0.mk (below_step C0.out hb); have K1 := Aside0.mk (blk_below K0.out hb); clear hb; obtain ⟨⟨hcz_0, hcz_1, hcz_2, hcz_3, hcz_4, hcz_5, hcz_6, hcz_7, hcz_8, hcz_9, hcz_10, hcz_11⟩, hfz_0, hfz_1, hfz_2, hfz_3, hfz_4, hfz_5, hfz_6, hfz_7, hfz_8, hfz_9, hfz_10, hfz_11⟩ := cells12 K1.out)
    | (go_at_call 26; (with_reducible refine (impl_isPort.calls a0_5 _ _ E2.out).mono ?_); rintro e w' ⟨rfl, ⟨nd, rfl⟩⟩)
    | (go_at_call 26; (with_reducible refine (impl_isPort.calls a0_6 _ _ E3.out).mono ?_); rintro e w' ⟨rfl, ⟨nd, rfl⟩⟩)
    | (fail))
  go_ret
  exact ⟨by first | rfl | (simp; done) | (simp [*]; done), by first | exact C1.out | (repeat (first | exact C1.out | apply pw_below_drewN | apply below_drew1))⟩
set_option maxHeartbeats 60000000 in
set_option maxRecDepth 100000 in
theorem impl_okRule.q1_call4 (a0_0 a0_1 a0_2 a0_3 a0_4 a0_5 a0_6 a0_7 a0_8 a0_9 a0_10 a0_11 : Int) (w : World) (c0 : decide (1 ≤ a0_0) = true) (c1 : decide (a0_0 ≤ 3) = true) (c2 : decide (1 ≤ a0_1) = true) (c3 : decide (a0_1 ≤ 3) = true) (c4 : decide (0 ≤ a0_11) = true) (c5 : decide (a0_11 ≤ 4) = true) (e0 : impl_okPrefix.f a0_3 a0_4 = some true) (e1 : impl_okPrefix.f a0_7 a0_8 = some true) (e2 : impl_isPort.f a0_5 = some true) (e3 : impl_isPort.f a0_6 = some true) (e4 : impl_isPort.f a0_9 = some false) :
    Calls Tryd.prog 14 #[.agg #[.int .i64 a0_0, .int .i64 a0_1, .int .i64 1, .int .i64 a0_3, .int .i64 a0_4, .int .i64 a0_5, .int .i64 a0_6, .int .i64 a0_7, .int .i64 a0_8, .int .i64 a0_9, .int .i64 a0_10, .int .i64 a0_11]] w fun e w' => e = .returned (.bool false) ∧ Below w.heap.size w w' := by
  have hu33 := Tryd.underlying33
  have hu31 := Tryd.underlying31
  have HB := Aside0.mk (Below.refl w.heap.size w)
  have E0 := Aside0.mk e0
  have E1 := Aside0.mk e1
  have E2 := Aside0.mk e2
  have E3 := Aside0.mk e3
  have E4 := Aside0.mk e4
  clear e0 e1 e2 e3 e4
  go_enter Tryd.func14, Tryd.ntmps14
  go_upto_region 1 with (first
    | ((with_reducible refine gate_dst (N := 1) rfl ?_); refine box_event ?hg (N := 1) ?hd (cs := #[.int .i64 a0_0, .int .i64 a0_1, .int .i64 1, .int .i64 a0_3, .int .i64 a0_4, .int .i64 a0_5, .int .i64 a0_6, .int .i64 a0_7, .int .i64 a0_8, .int .i64 a0_9, .int .i64 a0_10, .int .i64 a0_11]) (t := 33) ?hr ?_; (case hd => rfl); (case hg => rfl); (case hr => first | (go_simp; done) | (go_simp; rfl)); intro gb hg w1 hbox hb; have B1 := Aside0.mk (below_step HB.out hb); have BK := Aside0.mk hbox; clear hb hbox hg; obtain ⟨⟨hcz_0, hcz_1, hcz_2, hcz_3, hcz_4, hcz_5, hcz_6, hcz_7, hcz_8, hcz_9, hcz_10, hcz_11⟩, hfz_0, hfz_1, hfz_2, hfz_3, hfz_4, hfz_5, hfz_6, hfz_7, hfz_8, hfz_9, hfz_10, hfz_11⟩ := cells12 BK.out))
  refine wp_region_lit ?_
  simp only [List.append_eq, List.cons_append, List.nil_append]
  go_wp2_with (first
    | (go_at_call 25; (with_reducible refine (impl_okPrefix.calls a0_3 a0_4 _ _ E0.out).mono ?_); rintro e w2 ⟨rfl, hb⟩; have C0 := Aside0.mk (below_step B1.out hb); have K0 := Aside0.mk (blk_below BK.out hb); clear hb; obtain ⟨⟨hcz_0, hcz_1, hcz_2, hcz_3, hcz_4, hcz_5, hcz_6, hcz_7, hcz_8, hcz_9, hcz_10, hcz_11⟩, hfz_0, hfz_1, hfz_2, hfz_3, hfz_4, hfz_5, hfz_6, hfz_7, hfz_8, hfz_9, hfz_10, hfz_11⟩ := cells12 K0.out)
    | (go_at_call 25; (with_reducible refine (impl_okPrefix.calls a0_7 a0_8 _ _ E1.out).mono ?_); rintro e w2 ⟨rfl, hb⟩; have C1 := Aside0.mk (below_step C0.out hb); have K1 := Aside0.mk (blk_below K0.out hb); clear hb; obtain ⟨⟨hcz_0, hcz_1, hcz_2, hcz_3, hcz_4, hcz_5, hcz_6, hcz_7, hcz_8, hcz_9, hcz_10, hcz_11⟩, hfz_0, hfz_1, hfz_2, hfz_3, hfz_4, hfz_5, hfz_6, hfz_7, hfz_8, hfz_9, hfz_10, hfz_11⟩ := cells12 K1.out)
    | (go_at_call 26; (with_reducible refine (impl_isPort.calls a0_5 _ _ E2.out).mono ?_); rintro e w' ⟨rfl, ⟨nd, rfl⟩⟩)
    | (go_at_call 26; (with_reducible refine (impl_isPort.calls a0_6 _ _ E3.out).mono ?_); rintro e w' ⟨rfl, ⟨nd, rfl⟩⟩)
    | (go_at_call 26; (with_reducible refine (impl_isPort.calls a0_9 _ _ E4.out).mono ?_); rintro e w' ⟨rfl, ⟨nd, rfl⟩⟩)
    | (fail))
  go_ret
  exact ⟨by first | rfl | (simp; done) | (simp [*]; done), by first | exact C1.out | (repeat (first | exact C1.out | apply pw_below_drewN | apply below_drew1))⟩
set_option maxHeartbeats 60000000 in
set_option maxRecDepth 100000 in
theorem impl_okRule.q1_call5 (a0_0 a0_1 a0_2 a0_3 a0_4 a0_5 a0_6 a0_7 a0_8 a0_9 a0_10 a0_11 : Int) (w : World) (c0 : decide (1 ≤ a0_0) = true) (c1 : decide (a0_0 ≤ 3) = true) (c2 : decide (1 ≤ a0_1) = true) (c3 : decide (a0_1 ≤ 3) = true) (c4 : decide (0 ≤ a0_11) = true) (c5 : decide (a0_11 ≤ 4) = true) (e0 : impl_okPrefix.f a0_3 a0_4 = some true) (e1 : impl_okPrefix.f a0_7 a0_8 = some true) (e2 : impl_isPort.f a0_5 = some true) (e3 : impl_isPort.f a0_6 = some true) (e4 : impl_isPort.f a0_9 = some true) (e5 : impl_isPort.f a0_10 = some false) :
    Calls Tryd.prog 14 #[.agg #[.int .i64 a0_0, .int .i64 a0_1, .int .i64 1, .int .i64 a0_3, .int .i64 a0_4, .int .i64 a0_5, .int .i64 a0_6, .int .i64 a0_7, .int .i64 a0_8, .int .i64 a0_9, .int .i64 a0_10, .int .i64 a0_11]] w fun e w' => e = .returned (.bool false) ∧ Below w.heap.size w w' := by
  have hu33 := Tryd.underlying33
  have hu31 := Tryd.underlying31
  have HB := Aside0.mk (Below.refl w.heap.size w)
  have E0 := Aside0.mk e0
  have E1 := Aside0.mk e1
  have E2 := Aside0.mk e2
  have E3 := Aside0.mk e3
  have E4 := Aside0.mk e4
  have E5 := Aside0.mk e5
  clear e0 e1 e2 e3 e4 e5
  go_enter Tryd.func14, Tryd.ntmps14
  go_upto_region 1 with (first
    | ((with_reducible refine gate_dst (N := 1) rfl ?_); refine box_event ?hg (N := 1) ?hd (cs := #[.int .i64 a0_0, .int .i64 a0_1, .int .i64 1, .int .i64 a0_3, .int .i64 a0_4, .int .i64 a0_5, .int .i64 a0_6, .int .i64 a0_7, .int .i64 a0_8, .int .i64 a0_9, .int .i64 a0_10, .int .i64 a0_11]) (t := 33) ?hr ?_; (case hd => rfl); (case hg => rfl); (case hr => first | (go_simp; done) | (go_simp; rfl)); intro gb hg w1 hbox hb; have B1 := Aside0.mk (below_step HB.out hb); have BK := Aside0.mk hbox; clear hb hbox hg; obtain ⟨⟨hcz_0, hcz_1, hcz_2, hcz_3, hcz_4, hcz_5, hcz_6, hcz_7, hcz_8, hcz_9, hcz_10, hcz_11⟩, hfz_0, hfz_1, hfz_2, hfz_3, hfz_4, hfz_5, hfz_6, hfz_7, hfz_8, hfz_9, hfz_10, hfz_11⟩ := cells12 BK.out))
  refine wp_region_lit ?_
  simp only [List.append_eq, List.cons_append, List.nil_append]
  go_wp2_with (first
    | (go_at_call 25; (with_reducible refine (impl_okPrefix.calls a0_3 a0_4 _ _ E0.out).mono ?_); rintro e w2 ⟨rfl, hb⟩; have C0 := Aside0.mk (below_step B1.out hb); have K0 := Aside0.mk (blk_below BK.out hb); clear hb; obtain ⟨⟨hcz_0, hcz_1, hcz_2, hcz_3, hcz_4, hcz_5, hcz_6, hcz_7, hcz_8, hcz_9, hcz_10, hcz_11⟩, hfz_0, hfz_1, hfz_2, hfz_3, hfz_4, hfz_5, hfz_6, hfz_7, hfz_8, hfz_9, hfz_10, hfz_11⟩ := cells12 K0.out)
    | (go_at_call 25; (with_reducible refine (impl_okPrefix.calls a0_7 a0_8 _ _ E1.out).mono ?_); rintro e w2 ⟨rfl, hb⟩; have C1 := Aside0.mk (below_step C0.out hb); have K1 := Aside0.mk (blk_below K0.out hb); clear hb; obtain ⟨⟨hcz_0, hcz_1, hcz_2, hcz_3, hcz_4, hcz_5, hcz_6, hcz_7, hcz_8, hcz_9, hcz_10, hcz_11⟩, hfz_0, hfz_1, hfz_2, hfz_3, hfz_4, hfz_5, hfz_6, hfz_7, hfz_8, hfz_9, hfz_10, hfz_11⟩ := cells12 K1.out)
    | (go_at_call 26; (with_reducible refine (impl_isPort.calls a0_5 _ _ E2.out).mono ?_); rintro e w' ⟨rfl, ⟨nd, rfl⟩⟩)
    | (go_at_call 26; (with_reducible refine (impl_isPort.calls a0_6 _ _ E3.out).mono ?_); rintro e w' ⟨rfl, ⟨nd, rfl⟩⟩)
    | (go_at_call 26; (with_reducible refine (impl_isPort.calls a0_9 _ _ E4.out).mono ?_); rintro e w' ⟨rfl, ⟨nd, rfl⟩⟩)
    | (go_at_call 26; (with_reducible refine (impl_isPort.calls a0_10 _ _ E5.out).mono ?_); rintro e w' ⟨rfl, ⟨nd, rfl⟩⟩)
    | (fail))
  go_ret
  exact ⟨by first | rfl | (simp; done) | (simp [*]; done), by first | exact C1.out | (repeat (first | exact C1.out | apply pw_below_drewN | apply below_drew1))⟩
set_option maxHeartbeats 60000000 in
set_option maxRecDepth 100000 in
theorem impl_okRule.q1_cmp0 (a0_0 a0_1 a0_2 a0_3 a0_4 a0_5 a0_6 a0_7 a0_8 a0_9 a0_10 a0_11 : Int) (w : World) (c0 : decide (1 ≤ a0_0) = true) (c1 : decide (a0_0 ≤ 3) = true) (c2 : decide (1 ≤ a0_1) = true) (c3 : decide (a0_1 ≤ 3) = true) (c4 : decide (0 ≤ a0_11) = true) (c5 : decide (a0_11 ≤ 4) = true) (e0 : impl_okPrefix.f a0_3 a0_4 = some true) (e1 : impl_okPrefix.f a0_7 a0_8 = some true) (e2 : impl_isPort.f a0_5 = some true) (e3 : impl_isPort.f a0_6 = some true) (e4 : impl_isPort.f a0_9 = some true) (e5 : impl_isPort.f a0_10 = some true) (d0 : decide (a0_5 ≤ a0_6) = false) :
    Calls Tryd.prog 14 #[.agg #[.int .i64 a0_0, .int .i64 a0_1, .int .i64 1, .int .i64 a0_3, .int .i64 a0_4, .int .i64 a0_5, .int .i64 a0_6, .int .i64 a0_7, .int .i64 a0_8, .int .i64 a0_9, .int .i64 a0_10, .int .i64 a0_11]] w fun e w' => e = .returned (.bool false) ∧ Below w.heap.size w w' := by
  have hu33 := Tryd.underlying33
  have hu31 := Tryd.underlying31
  have HB := Aside0.mk (Below.refl w.heap.size w)
  have E0 := Aside0.mk e0
  have E1 := Aside0.mk e1
  have E2 := Aside0.mk e2
  have E3 := Aside0.mk e3
  have E4 := Aside0.mk e4
  have E5 := Aside0.mk e5
  clear e0 e1 e2 e3 e4 e5
  go_enter Tryd.func14, Tryd.ntmps14
  go_upto_region 1 with (first
    | ((with_reducible refine gate_dst (N := 1) rfl ?_); refine box_event ?hg (N := 1) ?hd (cs := #[.int .i64 a0_0, .int .i64 a0_1, .int .i64 1, .int .i64 a0_3, .int .i64 a0_4, .int .i64 a0_5, .int .i64 a0_6, .int .i64 a0_7, .int .i64 a0_8, .int .i64 a0_9, .int .i64 a0_10, .int .i64 a0_11]) (t := 33) ?hr ?_; (case hd => rfl); (case hg => rfl); (case hr => first | (go_simp; done) | (go_simp; rfl)); intro gb hg w1 hbox hb; have B1 := Aside0.mk (below_step HB.out hb); have BK := Aside0.mk hbox; clear hb hbox hg; obtain ⟨⟨hcz_0, hcz_1, hcz_2, hcz_3, hcz_4, hcz_5, hcz_6, hcz_7, hcz_8, hcz_9, hcz_10, hcz_11⟩, hfz_0, hfz_1, hfz_2, hfz_3, hfz_4, hfz_5, hfz_6, hfz_7, hfz_8, hfz_9, hfz_10, hfz_11⟩ := cells12 BK.out))
  refine wp_region_lit ?_
  simp only [List.append_eq, List.cons_append, List.nil_append]
  go_wp2_with (first
    | (go_at_call 25; (with_reducible refine (impl_okPrefix.calls a0_3 a0_4 _ _ E0.out).mono ?_); rintro e w2 ⟨rfl, hb⟩; have C0 := Aside0.mk (below_step B1.out hb); have K0 := Aside0.mk (blk_below BK.out hb); clear hb; obtain ⟨⟨hcz_0, hcz_1, hcz_2, hcz_3, hcz_4, hcz_5, hcz_6, hcz_7, hcz_8, hcz_9, hcz_10, hcz_11⟩, hfz_0, hfz_1, hfz_2, hfz_3, hfz_4, hfz_5, hfz_6, hfz_7, hfz_8, hfz_9, hfz_10, hfz_11⟩ := cells12 K0.out)
    | (go_at_call 25; (with_reducible refine (impl_okPrefix.calls a0_7 a0_8 _ _ E1.out).mono ?_); rintro e w2 ⟨rfl, hb⟩; have C1 := Aside0.mk (below_step C0.out hb); have K1 := Aside0.mk (blk_below K0.out hb); clear hb; obtain ⟨⟨hcz_0, hcz_1, hcz_2, hcz_3, hcz_4, hcz_5, hcz_6, hcz_7, hcz_8, hcz_9, hcz_10, hcz_11⟩, hfz_0, hfz_1, hfz_2, hfz_3, hfz_4, hfz_5, hfz_6, hfz_7, hfz_8, hfz_9, hfz_10, hfz_11⟩ := cells12 K1.out)
    | (go_at_call 26; (with_reducible refine (impl_isPort.calls a0_5 _ _ E2.out).mono ?_); rintro e w' ⟨rfl, ⟨nd, rfl⟩⟩)
    | (go_at_call 26; (with_reducible refine (impl_isPort.calls a0_6 _ _ E3.out).mono ?_); rintro e w' ⟨rfl, ⟨nd, rfl⟩⟩)
    | (go_at_call 26; (with_reducible refine (impl_isPort.calls a0_9 _ _ E4.out).mono ?_); rintro e w' ⟨rfl, ⟨nd, rfl⟩⟩)
    | (go_at_call 26; (with_reducible refine (impl_isPort.calls a0_10 _ _ E5.out).mono ?_); rintro e w' ⟨rfl, ⟨nd, rfl⟩⟩)
    | (fail))
  go_ret
  exact ⟨by first | rfl | (simp; done) | (simp [*]; done), by first | exact C1.out | (repeat (first | exact C1.out | apply pw_below_drewN | apply below_drew1))⟩
set_option maxHeartbeats 60000000 in
set_option maxRecDepth 100000 in
theorem impl_okRule.q1_cmp1 (a0_0 a0_1 a0_2 a0_3 a0_4 a0_5 a0_6 a0_7 a0_8 a0_9 a0_10 a0_11 : Int) (w : World) (c0 : decide (1 ≤ a0_0) = true) (c1 : decide (a0_0 ≤ 3) = true) (c2 : decide (1 ≤ a0_1) = true) (c3 : decide (a0_1 ≤ 3) = true) (c4 : decide (0 ≤ a0_11) = true) (c5 : decide (a0_11 ≤ 4) = true) (e0 : impl_okPrefix.f a0_3 a0_4 = some true) (e1 : impl_okPrefix.f a0_7 a0_8 = some true) (e2 : impl_isPort.f a0_5 = some true) (e3 : impl_isPort.f a0_6 = some true) (e4 : impl_isPort.f a0_9 = some true) (e5 : impl_isPort.f a0_10 = some true) (d0 : decide (a0_5 ≤ a0_6) = true) (d1 : decide (a0_9 ≤ a0_10) = false) :
    Calls Tryd.prog 14 #[.agg #[.int .i64 a0_0, .int .i64 a0_1, .int .i64 1, .int .i64 a0_3, .int .i64 a0_4, .int .i64 a0_5, .int .i64 a0_6, .int .i64 a0_7, .int .i64 a0_8, .int .i64 a0_9, .int .i64 a0_10, .int .i64 a0_11]] w fun e w' => e = .returned (.bool false) ∧ Below w.heap.size w w' := by
  have hu33 := Tryd.underlying33
  have hu31 := Tryd.underlying31
  have HB := Aside0.mk (Below.refl w.heap.size w)
  have E0 := Aside0.mk e0
  have E1 := Aside0.mk e1
  have E2 := Aside0.mk e2
  have E3 := Aside0.mk e3
  have E4 := Aside0.mk e4
  have E5 := Aside0.mk e5
  clear e0 e1 e2 e3 e4 e5
  go_enter Tryd.func14, Tryd.ntmps14
  go_upto_region 1 with (first
    | ((with_reducible refine gate_dst (N := 1) rfl ?_); refine box_event ?hg (N := 1) ?hd (cs := #[.int .i64 a0_0, .int .i64 a0_1, .int .i64 1, .int .i64 a0_3, .int .i64 a0_4, .int .i64 a0_5, .int .i64 a0_6, .int .i64 a0_7, .int .i64 a0_8, .int .i64 a0_9, .int .i64 a0_10, .int .i64 a0_11]) (t := 33) ?hr ?_; (case hd => rfl); (case hg => rfl); (case hr => first | (go_simp; done) | (go_simp; rfl)); intro gb hg w1 hbox hb; have B1 := Aside0.mk (below_step HB.out hb); have BK := Aside0.mk hbox; clear hb hbox hg; obtain ⟨⟨hcz_0, hcz_1, hcz_2, hcz_3, hcz_4, hcz_5, hcz_6, hcz_7, hcz_8, hcz_9, hcz_10, hcz_11⟩, hfz_0, hfz_1, hfz_2, hfz_3, hfz_4, hfz_5, hfz_6, hfz_7, hfz_8, hfz_9, hfz_10, hfz_11⟩ := cells12 BK.out))
  refine wp_region_lit ?_
  simp only [List.append_eq, List.cons_append, List.nil_append]
  go_wp2_with (first
    | (go_at_call 25; (with_reducible refine (impl_okPrefix.calls a0_3 a0_4 _ _ E0.out).mono ?_); rintro e w2 ⟨rfl, hb⟩; have C0 := Aside0.mk (below_step B1.out hb); have K0 := Aside0.mk (blk_below BK.out hb); clear hb; obtain ⟨⟨hcz_0, hcz_1, hcz_2, hcz_3, hcz_4, hcz_5, hcz_6, hcz_7, hcz_8, hcz_9, hcz_10, hcz_11⟩, hfz_0, hfz_1, hfz_2, hfz_3, hfz_4, hfz_5, hfz_6, hfz_7, hfz_8, hfz_9, hfz_10, hfz_11⟩ := cells12 K0.out)
    | (go_at_call 25; (with_reducible refine (impl_okPrefix.calls a0_7 a0_8 _ _ E1.out).mono ?_); rintro e w2 ⟨rfl, hb⟩; have C1 := Aside0.mk (below_step C0.out hb); have K1 := Aside0.mk (blk_below K0.out hb); clear hb; obtain ⟨⟨hcz_0, hcz_1, hcz_2, hcz_3, hcz_4, hcz_5, hcz_6, hcz_7, hcz_8, hcz_9, hcz_10, hcz_11⟩, hfz_0, hfz_1, hfz_2, hfz_3, hfz_4, hfz_5, hfz_6, hfz_7, hfz_8, hfz_9, hfz_10, hfz_11⟩ := cells12 K1.out)
    | (go_at_call 26; (with_reducible refine (impl_isPort.calls a0_5 _ _ E2.out).mono ?_); rintro e w' ⟨rfl, ⟨nd, rfl⟩⟩)
    | (go_at_call 26; (with_reducible refine (impl_isPort.calls a0_6 _ _ E3.out).mono ?_); rintro e w' ⟨rfl, ⟨nd, rfl⟩⟩)
    | (go_at_call 26; (with_reducible refine (impl_isPort.calls a0_9 _ _ E4.out).mono ?_); rintro e w' ⟨rfl, ⟨nd, rfl⟩⟩)
    | (go_at_call 26; (with_reducible refine (impl_isPort.calls a0_10 _ _ E5.out).mono ?_); rintro e w' ⟨rfl, ⟨nd, rfl⟩⟩)
    | (fail))
  go_ret
  exact ⟨by first | rfl | (simp; done) | (simp [*]; done), by first | exact C1.out | (repeat (first | exact C1.out | apply pw_below_drewN | apply below_drew1))⟩
set_option maxHeartbeats 60000000 in
set_option maxRecDepth 100000 in
theorem impl_okRule.q1_end0 (a0_0 a0_1 a0_2 a0_3 a0_4 a0_5 a0_6 a0_7 a0_8 a0_9 a0_10 a0_11 : Int) (w : World) (c0 : decide (1 ≤ a0_0) = true) (c1 : decide (a0_0 ≤ 3) = true) (c2 : decide (1 ≤ a0_1) = true) (c3 : decide (a0_1 ≤ 3) = true) (c4 : decide (0 ≤ a0_11) = true) (c5 : decide (a0_11 ≤ 4) = true) (e0 : impl_okPrefix.f a0_3 a0_4 = some true) (e1 : impl_okPrefix.f a0_7 a0_8 = some true) (e2 : impl_isPort.f a0_5 = some true) (e3 : impl_isPort.f a0_6 = some true) (e4 : impl_isPort.f a0_9 = some true) (e5 : impl_isPort.f a0_10 = some true) (d0 : decide (a0_5 ≤ a0_6) = true) (d1 : decide (a0_9 ≤ a0_10) = true) (n0 : (a0_5 == 0) = false) :
    Calls Tryd.prog 14 #[.agg #[.int .i64 a0_0, .int .i64 a0_1, .int .i64 1, .int .i64 a0_3, .int .i64 a0_4, .int .i64 a0_5, .int .i64 a0_6, .int .i64 a0_7, .int .i64 a0_8, .int .i64 a0_9, .int .i64 a0_10, .int .i64 a0_11]] w fun e w' => e = .returned (.bool false) ∧ Below w.heap.size w w' := by
  have hu33 := Tryd.underlying33
  have hu31 := Tryd.underlying31
  have HB := Aside0.mk (Below.refl w.heap.size w)
  have E0 := Aside0.mk e0
  have E1 := Aside0.mk e1
  have E2 := Aside0.mk e2
  have E3 := Aside0.mk e3
  have E4 := Aside0.mk e4
  have E5 := Aside0.mk e5
  clear e0 e1 e2 e3 e4 e5
  go_enter Tryd.func14, Tryd.ntmps14
  go_upto_region 1 with (first
    | ((with_reducible refine gate_dst (N := 1) rfl ?_); refine box_event ?hg (N := 1) ?hd (cs := #[.int .i64 a0_0, .int .i64 a0_1, .int .i64 1, .int .i64 a0_3, .int .i64 a0_4, .int .i64 a0_5, .int .i64 a0_6, .int .i64 a0_7, .int .i64 a0_8, .int .i64 a0_9, .int .i64 a0_10, .int .i64 a0_11]) (t := 33) ?hr ?_; (case hd => rfl); (case hg => rfl); (case hr => first | (go_simp; done) | (go_simp; rfl)); intro gb hg w1 hbox hb; have B1 := Aside0.mk (below_step HB.out hb); have BK := Aside0.mk hbox; clear hb hbox hg; obtain ⟨⟨hcz_0, hcz_1, hcz_2, hcz_3, hcz_4, hcz_5, hcz_6, hcz_7, hcz_8, hcz_9, hcz_10, hcz_11⟩, hfz_0, hfz_1, hfz_2, hfz_3, hfz_4, hfz_5, hfz_6, hfz_7, hfz_8, hfz_9, hfz_10, hfz_11⟩ := cells12 BK.out))
  refine wp_region_lit ?_
  simp only [List.append_eq, List.cons_append, List.nil_append]
  go_wp2_with (first
    | (go_at_call 25; (with_reducible refine (impl_okPrefix.calls a0_3 a0_4 _ _ E0.out).mono ?_); rintro e w2 ⟨rfl, hb⟩; have C0 := Aside0.mk (below_step B1.out hb); have K0 := Aside0.mk (blk_below BK.out hb); clear hb; obtain ⟨⟨hcz_0, hcz_1, hcz_2, hcz_3, hcz_4, hcz_5, hcz_6, hcz_7, hcz_8, hcz_9, hcz_10, hcz_11⟩, hfz_0, hfz_1, hfz_2, hfz_3, hfz_4, hfz_5, hfz_6, hfz_7, hfz_8, hfz_9, hfz_10, hfz_11⟩ := cells12 K0.out)
    | (go_at_call 25; (with_reducible refine (impl_okPrefix.calls a0_7 a0_8 _ _ E1.out).mono ?_); rintro e w2 ⟨rfl, hb⟩; have C1 := Aside0.mk (below_step C0.out hb); have K1 := Aside0.mk (blk_below K0.out hb); clear hb; obtain ⟨⟨hcz_0, hcz_1, hcz_2, hcz_3, hcz_4, hcz_5, hcz_6, hcz_7, hcz_8, hcz_9, hcz_10, hcz_11⟩, hfz_0, hfz_1, hfz_2, hfz_3, hfz_4, hfz_5, hfz_6, hfz_7, hfz_8, hfz_9, hfz_10, hfz_11⟩ := cells12 K1.out)
    | (go_at_call 26; (with_reducible refine (impl_isPort.calls a0_5 _ _ E2.out).mono ?_); rintro e w' ⟨rfl, ⟨nd, rfl⟩⟩)
    | (go_at_call 26; (with_reducible refine (impl_isPort.calls a0_6 _ _ E3.out).mono ?_); rintro e w' ⟨rfl, ⟨nd, rfl⟩⟩)
    | (go_at_call 26; (with_reducible refine (impl_isPort.calls a0_9 _ _ E4.out).mono ?_); rintro e w' ⟨rfl, ⟨nd, rfl⟩⟩)
    | (go_at_call 26; (with_reducible refine (impl_isPort.calls a0_10 _ _ E5.out).mono ?_); rintro e w' ⟨rfl, ⟨nd, rfl⟩⟩)
    | (fail))
  go_ret
  exact ⟨by first | rfl | (simp; done) | (simp [*]; done), by first | exact C1.out | (repeat (first | exact C1.out | apply pw_below_drewN | apply below_drew1))⟩
set_option maxHeartbeats 60000000 in
set_option maxRecDepth 100000 in
theorem impl_okRule.q1_end1 (a0_0 a0_1 a0_2 a0_3 a0_4 a0_5 a0_6 a0_7 a0_8 a0_9 a0_10 a0_11 : Int) (w : World) (c0 : decide (1 ≤ a0_0) = true) (c1 : decide (a0_0 ≤ 3) = true) (c2 : decide (1 ≤ a0_1) = true) (c3 : decide (a0_1 ≤ 3) = true) (c4 : decide (0 ≤ a0_11) = true) (c5 : decide (a0_11 ≤ 4) = true) (e0 : impl_okPrefix.f a0_3 a0_4 = some true) (e1 : impl_okPrefix.f a0_7 a0_8 = some true) (e2 : impl_isPort.f a0_5 = some true) (e3 : impl_isPort.f a0_6 = some true) (e4 : impl_isPort.f a0_9 = some true) (e5 : impl_isPort.f a0_10 = some true) (d0 : decide (a0_5 ≤ a0_6) = true) (d1 : decide (a0_9 ≤ a0_10) = true) (n0 : (a0_5 == 0) = true) (n1 : (a0_6 == 65535) = false) :
    Calls Tryd.prog 14 #[.agg #[.int .i64 a0_0, .int .i64 a0_1, .int .i64 1, .int .i64 a0_3, .int .i64 a0_4, .int .i64 a0_5, .int .i64 a0_6, .int .i64 a0_7, .int .i64 a0_8, .int .i64 a0_9, .int .i64 a0_10, .int .i64 a0_11]] w fun e w' => e = .returned (.bool false) ∧ Below w.heap.size w w' := by
  have hu33 := Tryd.underlying33
  have hu31 := Tryd.underlying31
  have HB := Aside0.mk (Below.refl w.heap.size w)
  have E0 := Aside0.mk e0
  have E1 := Aside0.mk e1
  have E2 := Aside0.mk e2
  have E3 := Aside0.mk e3
  have E4 := Aside0.mk e4
  have E5 := Aside0.mk e5
  clear e0 e1 e2 e3 e4 e5
  go_enter Tryd.func14, Tryd.ntmps14
  go_upto_region 1 with (first
    | ((with_reducible refine gate_dst (N := 1) rfl ?_); refine box_event ?hg (N := 1) ?hd (cs := #[.int .i64 a0_0, .int .i64 a0_1, .int .i64 1, .int .i64 a0_3, .int .i64 a0_4, .int .i64 a0_5, .int .i64 a0_6, .int .i64 a0_7, .int .i64 a0_8, .int .i64 a0_9, .int .i64 a0_10, .int .i64 a0_11]) (t := 33) ?hr ?_; (case hd => rfl); (case hg => rfl); (case hr => first | (go_simp; done) | (go_simp; rfl)); intro gb hg w1 hbox hb; have B1 := Aside0.mk (below_step HB.out hb); have BK := Aside0.mk hbox; clear hb hbox hg; obtain ⟨⟨hcz_0, hcz_1, hcz_2, hcz_3, hcz_4, hcz_5, hcz_6, hcz_7, hcz_8, hcz_9, hcz_10, hcz_11⟩, hfz_0, hfz_1, hfz_2, hfz_3, hfz_4, hfz_5, hfz_6, hfz_7, hfz_8, hfz_9, hfz_10, hfz_11⟩ := cells12 BK.out))
  refine wp_region_lit ?_
  simp only [List.append_eq, List.cons_append, List.nil_append]
  go_wp2_with (first
    | (go_at_call 25; (with_reducible refine (impl_okPrefix.calls a0_3 a0_4 _ _ E0.out).mono ?_); rintro e w2 ⟨rfl, hb⟩; have C0 := Aside0.mk (below_step B1.out hb); have K0 := Aside0.mk (blk_below BK.out hb); clear hb; obtain ⟨⟨hcz_0, hcz_1, hcz_2, hcz_3, hcz_4, hcz_5, hcz_6, hcz_7, hcz_8, hcz_9, hcz_10, hcz_11⟩, hfz_0, hfz_1, hfz_2, hfz_3, hfz_4, hfz_5, hfz_6, hfz_7, hfz_8, hfz_9, hfz_10, hfz_11⟩ := cells12 K0.out)
    | (go_at_call 25; (with_reducible refine (impl_okPrefix.calls a0_7 a0_8 _ _ E1.out).mono ?_); rintro e w2 ⟨rfl, hb⟩; have C1 := Aside0.mk (below_step C0.out hb); have K1 := Aside0.mk (blk_below K0.out hb); clear hb; obtain ⟨⟨hcz_0, hcz_1, hcz_2, hcz_3, hcz_4, hcz_5, hcz_6, hcz_7, hcz_8, hcz_9, hcz_10, hcz_11⟩, hfz_0, hfz_1, hfz_2, hfz_3, hfz_4, hfz_5, hfz_6, hfz_7, hfz_8, hfz_9, hfz_10, hfz_11⟩ := cells12 K1.out)
    | (go_at_call 26; (with_reducible refine (impl_isPort.calls a0_5 _ _ E2.out).mono ?_); rintro e w' ⟨rfl, ⟨nd, rfl⟩⟩)
    | (go_at_call 26; (with_reducible refine (impl_isPort.calls a0_6 _ _ E3.out).mono ?_); rintro e w' ⟨rfl, ⟨nd, rfl⟩⟩)
    | (go_at_call 26; (with_reducible refine (impl_isPort.calls a0_9 _ _ E4.out).mono ?_); rintro e w' ⟨rfl, ⟨nd, rfl⟩⟩)
    | (go_at_call 26; (with_reducible refine (impl_isPort.calls a0_10 _ _ E5.out).mono ?_); rintro e w' ⟨rfl, ⟨nd, rfl⟩⟩)
    | (fail))
  go_ret
  exact ⟨by first | rfl | (simp; done) | (simp [*]; done), by first | exact C1.out | (repeat (first | exact C1.out | apply pw_below_drewN | apply below_drew1))⟩
set_option maxHeartbeats 60000000 in
set_option maxRecDepth 100000 in
theorem impl_okRule.q1_end2 (a0_0 a0_1 a0_2 a0_3 a0_4 a0_5 a0_6 a0_7 a0_8 a0_9 a0_10 a0_11 : Int) (w : World) (c0 : decide (1 ≤ a0_0) = true) (c1 : decide (a0_0 ≤ 3) = true) (c2 : decide (1 ≤ a0_1) = true) (c3 : decide (a0_1 ≤ 3) = true) (c4 : decide (0 ≤ a0_11) = true) (c5 : decide (a0_11 ≤ 4) = true) (e0 : impl_okPrefix.f a0_3 a0_4 = some true) (e1 : impl_okPrefix.f a0_7 a0_8 = some true) (e2 : impl_isPort.f a0_5 = some true) (e3 : impl_isPort.f a0_6 = some true) (e4 : impl_isPort.f a0_9 = some true) (e5 : impl_isPort.f a0_10 = some true) (d0 : decide (a0_5 ≤ a0_6) = true) (d1 : decide (a0_9 ≤ a0_10) = true) (n0 : (a0_5 == 0) = true) (n1 : (a0_6 == 65535) = true) (n2 : (a0_9 == 0) = false) :
    Calls Tryd.prog 14 #[.agg #[.int .i64 a0_0, .int .i64 a0_1, .int .i64 1, .int .i64 a0_3, .int .i64 a0_4, .int .i64 a0_5, .int .i64 a0_6, .int .i64 a0_7, .int .i64 a0_8, .int .i64 a0_9, .int .i64 a0_10, .int .i64 a0_11]] w fun e w' => e = .returned (.bool false) ∧ Below w.heap.size w w' := by
  have hu33 := Tryd.underlying33
  have hu31 := Tryd.underlying31
  have HB := Aside0.mk (Below.refl w.heap.size w)
  have E0 := Aside0.mk e0
  have E1 := Aside0.mk e1
  have E2 := Aside0.mk e2
  have E3 := Aside0.mk e3
  have E4 := Aside0.mk e4
  have E5 := Aside0.mk e5
  clear e0 e1 e2 e3 e4 e5
  go_enter Tryd.func14, Tryd.ntmps14
  go_upto_region 1 with (first
    | ((with_reducible refine gate_dst (N := 1) rfl ?_); refine box_event ?hg (N := 1) ?hd (cs := #[.int .i64 a0_0, .int .i64 a0_1, .int .i64 1, .int .i64 a0_3, .int .i64 a0_4, .int .i64 a0_5, .int .i64 a0_6, .int .i64 a0_7, .int .i64 a0_8, .int .i64 a0_9, .int .i64 a0_10, .int .i64 a0_11]) (t := 33) ?hr ?_; (case hd => rfl); (case hg => rfl); (case hr => first | (go_simp; done) | (go_simp; rfl)); intro gb hg w1 hbox hb; have B1 := Aside0.mk (below_step HB.out hb); have BK := Aside0.mk hbox; clear hb hbox hg; obtain ⟨⟨hcz_0, hcz_1, hcz_2, hcz_3, hcz_4, hcz_5, hcz_6, hcz_7, hcz_8, hcz_9, hcz_10, hcz_11⟩, hfz_0, hfz_1, hfz_2, hfz_3, hfz_4, hfz_5, hfz_6, hfz_7, hfz_8, hfz_9, hfz_10, hfz_11⟩ := cells12 BK.out))
  refine wp_region_lit ?_
  simp only [List.append_eq, List.cons_append, List.nil_append]
  go_wp2_with (first
    | (go_at_call 25; (with_reducible refine (impl_okPrefix.calls a0_3 a0_4 _ _ E0.out).mono ?_); rintro e w2 ⟨rfl, hb⟩; have C0 := Aside0.mk (below_step B1.out hb); have K0 := Aside0.mk (blk_below BK.out hb); clear hb; obtain ⟨⟨hcz_0, hcz_1, hcz_2, hcz_3, hcz_4, hcz_5, hcz_6, hcz_7, hcz_8, hcz_9, hcz_10, hcz_11⟩, hfz_0, hfz_1, hfz_2, hfz_3, hfz_4, hfz_5, hfz_6, hfz_7, hfz_8, hfz_9, hfz_10, hfz_11⟩ := cells12 K0.out)
    | (go_at_call 25; (with_reducible refine (impl_okPrefix.calls a0_7 a0_8 _ _ E1.out).mono ?_); rintro e w2 ⟨rfl, hb⟩; have C1 := Aside0.mk (below_step C0.out hb); have K1 := Aside0.mk (blk_below K0.out hb); clear hb; obtain ⟨⟨hcz_0, hcz_1, hcz_2, hcz_3, hcz_4, hcz_5, hcz_6, hcz_7, hcz_8, hcz_9, hcz_10, hcz_11⟩, hfz_0, hfz_1, hfz_2, hfz_3, hfz_4, hfz_5, hfz_6, hfz_7, hfz_8, hfz_9, hfz_10, hfz_11⟩ := cells12 K1.out)
    | (go_at_call 26; (with_reducible refine (impl_isPort.calls a0_5 _ _ E2.out).mono ?_); rintro e w' ⟨rfl, ⟨nd, rfl⟩⟩)
    | (go_at_call 26; (with_reducible refine (impl_isPort.calls a0_6 _ _ E3.out).mono ?_); rintro e w' ⟨rfl, ⟨nd, rfl⟩⟩)
    | (go_at_call 26; (with_reducible refine (impl_isPort.calls a0_9 _ _ E4.out).mono ?_); rintro e w' ⟨rfl, ⟨nd, rfl⟩⟩)
    | (go_at_call 26; (with_reducible refine (impl_isPort.calls a0_10 _ _ E5.out).mono ?_); rintro e w' ⟨rfl, ⟨nd, rfl⟩⟩)
    | (fail))
  go_ret
  exact ⟨by first | rfl | (simp; done) | (simp [*]; done), by first | exact C1.out | (repeat (first | exact C1.out | apply pw_below_drewN | apply below_drew1))⟩
set_option maxHeartbeats 60000000 in
set_option maxRecDepth 100000 in
theorem impl_okRule.q1_end3 (a0_0 a0_1 a0_2 a0_3 a0_4 a0_5 a0_6 a0_7 a0_8 a0_9 a0_10 a0_11 : Int) (w : World) (c0 : decide (1 ≤ a0_0) = true) (c1 : decide (a0_0 ≤ 3) = true) (c2 : decide (1 ≤ a0_1) = true) (c3 : decide (a0_1 ≤ 3) = true) (c4 : decide (0 ≤ a0_11) = true) (c5 : decide (a0_11 ≤ 4) = true) (e0 : impl_okPrefix.f a0_3 a0_4 = some true) (e1 : impl_okPrefix.f a0_7 a0_8 = some true) (e2 : impl_isPort.f a0_5 = some true) (e3 : impl_isPort.f a0_6 = some true) (e4 : impl_isPort.f a0_9 = some true) (e5 : impl_isPort.f a0_10 = some true) (d0 : decide (a0_5 ≤ a0_6) = true) (d1 : decide (a0_9 ≤ a0_10) = true) (n0 : (a0_5 == 0) = true) (n1 : (a0_6 == 65535) = true) (n2 : (a0_9 == 0) = true) :
    Calls Tryd.prog 14 #[.agg #[.int .i64 a0_0, .int .i64 a0_1, .int .i64 1, .int .i64 a0_3, .int .i64 a0_4, .int .i64 a0_5, .int .i64 a0_6, .int .i64 a0_7, .int .i64 a0_8, .int .i64 a0_9, .int .i64 a0_10, .int .i64 a0_11]] w fun e w' => e = .returned (.bool (a0_10 == 65535)) ∧ Below w.heap.size w w' := by
  have hu33 := Tryd.underlying33
  have hu31 := Tryd.underlying31
  have HB := Aside0.mk (Below.refl w.heap.size w)
  have E0 := Aside0.mk e0
  have E1 := Aside0.mk e1
  have E2 := Aside0.mk e2
  have E3 := Aside0.mk e3
  have E4 := Aside0.mk e4
  have E5 := Aside0.mk e5
  clear e0 e1 e2 e3 e4 e5
  go_enter Tryd.func14, Tryd.ntmps14
  go_upto_region 1 with (first
    | ((with_reducible refine gate_dst (N := 1) rfl ?_); refine box_event ?hg (N := 1) ?hd (cs := #[.int .i64 a0_0, .int .i64 a0_1, .int .i64 1, .int .i64 a0_3, .int .i64 a0_4, .int .i64 a0_5, .int .i64 a0_6, .int .i64 a0_7, .int .i64 a0_8, .int .i64 a0_9, .int .i64 a0_10, .int .i64 a0_11]) (t := 33) ?hr ?_; (case hd => rfl); (case hg => rfl); (case hr => first | (go_simp; done) | (go_simp; rfl)); intro gb hg w1 hbox hb; have B1 := Aside0.mk (below_step HB.out hb); have BK := Aside0.mk hbox; clear hb hbox hg; obtain ⟨⟨hcz_0, hcz_1, hcz_2, hcz_3, hcz_4, hcz_5, hcz_6, hcz_7, hcz_8, hcz_9, hcz_10, hcz_11⟩, hfz_0, hfz_1, hfz_2, hfz_3, hfz_4, hfz_5, hfz_6, hfz_7, hfz_8, hfz_9, hfz_10, hfz_11⟩ := cells12 BK.out))
  refine wp_region_lit ?_
  simp only [List.append_eq, List.cons_append, List.nil_append]
  go_wp2_with (first
    | (go_at_call 25; (with_reducible refine (impl_okPrefix.calls a0_3 a0_4 _ _ E0.out).mono ?_); rintro e w2 ⟨rfl, hb⟩; have C0 := Aside0.mk (below_step B1.out hb); have K0 := Aside0.mk (blk_below BK.out hb); clear hb; obtain ⟨⟨hcz_0, hcz_1, hcz_2, hcz_3, hcz_4, hcz_5, hcz_6, hcz_7, hcz_8, hcz_9, hcz_10, hcz_11⟩, hfz_0, hfz_1, hfz_2, hfz_3, hfz_4, hfz_5, hfz_6, hfz_7, hfz_8, hfz_9, hfz_10, hfz_11⟩ := cells12 K0.out)
    | (go_at_call 25; (with_reducible refine (impl_okPrefix.calls a0_7 a0_8 _ _ E1.out).mono ?_); rintro e w2 ⟨rfl, hb⟩; have C1 := Aside0.mk (below_step C0.out hb); have K1 := Aside0.mk (blk_below K0.out hb); clear hb; obtain ⟨⟨hcz_0, hcz_1, hcz_2, hcz_3, hcz_4, hcz_5, hcz_6, hcz_7, hcz_8, hcz_9, hcz_10, hcz_11⟩, hfz_0, hfz_1, hfz_2, hfz_3, hfz_4, hfz_5, hfz_6, hfz_7, hfz_8, hfz_9, hfz_10, hfz_11⟩ := cells12 K1.out)
    | (go_at_call 26; (with_reducible refine (impl_isPort.calls a0_5 _ _ E2.out).mono ?_); rintro e w' ⟨rfl, ⟨nd, rfl⟩⟩)
    | (go_at_call 26; (with_reducible refine (impl_isPort.calls a0_6 _ _ E3.out).mono ?_); rintro e w' ⟨rfl, ⟨nd, rfl⟩⟩)
    | (go_at_call 26; (with_reducible refine (impl_isPort.calls a0_9 _ _ E4.out).mono ?_); rintro e w' ⟨rfl, ⟨nd, rfl⟩⟩)
    | (go_at_call 26; (with_reducible refine (impl_isPort.calls a0_10 _ _ E5.out).mono ?_); rintro e w' ⟨rfl, ⟨nd, rfl⟩⟩)
    | (fail))
  go_ret
  exact ⟨by first | rfl | (simp; done) | (simp [*]; done), by first | exact C1.out | (repeat (first | exact C1.out | apply pw_below_drewN | apply below_drew1))⟩
set_option maxHeartbeats 60000000 in
set_option maxRecDepth 100000 in
theorem impl_okRule.q6_call0 (a0_0 a0_1 a0_2 a0_3 a0_4 a0_5 a0_6 a0_7 a0_8 a0_9 a0_10 a0_11 : Int) (w : World) (c0 : decide (1 ≤ a0_0) = true) (c1 : decide (a0_0 ≤ 3) = true) (c2 : decide (1 ≤ a0_1) = true) (c3 : decide (a0_1 ≤ 3) = true) (c4 : decide (0 ≤ a0_11) = true) (c5 : decide (a0_11 ≤ 4) = true) (e0 : impl_okPrefix.f a0_3 a0_4 = some false) :
    Calls Tryd.prog 14 #[.agg #[.int .i64 a0_0, .int .i64 a0_1, .int .i64 6, .int .i64 a0_3, .int .i64 a0_4, .int .i64 a0_5, .int .i64 a0_6, .int .i64 a0_7, .int .i64 a0_8, .int .i64 a0_9, .int .i64 a0_10, .int .i64 a0_11]] w fun e w' => e = .returned (.bool false) ∧ Below w.heap.size w w' := by
  have hu33 := Tryd.underlying33
  have hu31 := Tryd.underlying31
  have HB := Aside0.mk (Below.refl w.heap.size w)
  have E0 := Aside0.mk e0
  clear e0
  go_enter Tryd.func14, Tryd.ntmps14
  go_upto_region 1 with (first
    | ((with_reducible refine gate_dst (N := 1) rfl ?_); refine box_event ?hg (N := 1) ?hd (cs := #[.int .i64 a0_0, .int .i64 a0_1, .int .i64 6, .int .i64 a0_3, .int .i64 a0_4, .int .i64 a0_5, .int .i64 a0_6, .int .i64 a0_7, .int .i64 a0_8, .int .i64 a0_9, .int .i64 a0_10, .int .i64 a0_11]) (t := 33) ?hr ?_; (case hd => rfl); (case hg => rfl); (case hr => first | (go_simp; done) | (go_simp; rfl)); intro gb hg w1 hbox hb; have B1 := Aside0.mk (below_step HB.out hb); have BK := Aside0.mk hbox; clear hb hbox hg; obtain ⟨⟨hcz_0, hcz_1, hcz_2, hcz_3, hcz_4, hcz_5, hcz_6, hcz_7, hcz_8, hcz_9, hcz_10, hcz_11⟩, hfz_0, hfz_1, hfz_2, hfz_3, hfz_4, hfz_5, hfz_6, hfz_7, hfz_8, hfz_9, hfz_10, hfz_11⟩ := cells12 BK.out))
  refine wp_region_lit ?_
  simp only [List.append_eq, List.cons_append, List.nil_append]
  go_wp2_with (first
    | (go_at_call 25; (with_reducible refine (impl_okPrefix.calls a0_3 a0_4 _ _ E0.out).mono ?_); rintro e w2 ⟨rfl, hb⟩; have C0 := Aside0.mk (below_step B1.out hb); have K0 := Aside0.mk (blk_below BK.out hb); clear hb; obtain ⟨⟨hcz_0, hcz_1, hcz_2, hcz_3, hcz_4, hcz_5, hcz_6, hcz_7, hcz_8, hcz_9, hcz_10, hcz_11⟩, hfz_0, hfz_1, hfz_2, hfz_3, hfz_4, hfz_5, hfz_6, hfz_7, hfz_8, hfz_9, hfz_10, hfz_11⟩ := cells12 K0.out)
    | (fail))
  go_ret
  exact ⟨by first | rfl | (simp; done) | (simp [*]; done), by first | exact C0.out | (repeat (first | exact C0.out | apply pw_below_drewN | apply below_drew1))⟩
set_option maxHeartbeats 60000000 in
set_option maxRecDepth 100000 in
theorem impl_okRule.q6_call1 (a0_0 a0_1 a0_2 a0_3 a0_4 a0_5 a0_6 a0_7 a0_8 a0_9 a0_10 a0_11 : Int) (w : World) (c0 : decide (1 ≤ a0_0) = true) (c1 : decide (a0_0 ≤ 3) = true) (c2 : decide (1 ≤ a0_1) = true) (c3 : decide (a0_1 ≤ 3) = true) (c4 : decide (0 ≤ a0_11) = true) (c5 : decide (a0_11 ≤ 4) = true) (e0 : impl_okPrefix.f a0_3 a0_4 = some true) (e1 : impl_okPrefix.f a0_7 a0_8 = some false) :
    Calls Tryd.prog 14 #[.agg #[.int .i64 a0_0, .int .i64 a0_1, .int .i64 6, .int .i64 a0_3, .int .i64 a0_4, .int .i64 a0_5, .int .i64 a0_6, .int .i64 a0_7, .int .i64 a0_8, .int .i64 a0_9, .int .i64 a0_10, .int .i64 a0_11]] w fun e w' => e = .returned (.bool false) ∧ Below w.heap.size w w' := by
  have hu33 := Tryd.underlying33
  have hu31 := Tryd.underlying31
  have HB := Aside0.mk (Below.refl w.heap.size w)
  have E0 := Aside0.mk e0
  have E1 := Aside0.mk e1
  clear e0 e1
  go_enter Tryd.func14, Tryd.ntmps14
  go_upto_region 1 with (first
    | ((with_reducible refine gate_dst (N := 1) rfl ?_); refine box_event ?hg (N := 1) ?hd (cs := #[.int .i64 a0_0, .int .i64 a0_1, .int .i64 6, .int .i64 a0_3, .int .i64 a0_4, .int .i64 a0_5, .int .i64 a0_6, .int .i64 a0_7, .int .i64 a0_8, .int .i64 a0_9, .int .i64 a0_10, .int .i64 a0_11]) (t := 33) ?hr ?_; (case hd => rfl); (case hg => rfl); (case hr => first | (go_simp; done) | (go_simp; rfl)); intro gb hg w1 hbox hb; have B1 := Aside0.mk (below_step HB.out hb); have BK := Aside0.mk hbox; clear hb hbox hg; obtain ⟨⟨hcz_0, hcz_1, hcz_2, hcz_3, hcz_4, hcz_5, hcz_6, hcz_7, hcz_8, hcz_9, hcz_10, hcz_11⟩, hfz_0, hfz_1, hfz_2, hfz_3, hfz_4, hfz_5, hfz_6, hfz_7, hfz_8, hfz_9, hfz_10, hfz_11⟩ := cells12 BK.out))
  refine wp_region_lit ?_
  simp only [List.append_eq, List.cons_append, List.nil_append]
  go_wp2_with (first
    | (go_at_call 25; (with_reducible refine (impl_okPrefix.calls a0_3 a0_4 _ _ E0.out).mono ?_); rintro e w2 ⟨rfl, hb⟩; have C0 := Aside0.mk (below_step B1.out hb); have K0 := Aside0.mk (blk_below BK.out hb); clear hb; obtain ⟨⟨hcz_0, hcz_1, hcz_2, hcz_3, hcz_4, hcz_5, hcz_6, hcz_7, hcz_8, hcz_9, hcz_10, hcz_11⟩, hfz_0, hfz_1, hfz_2, hfz_3, hfz_4, hfz_5, hfz_6, hfz_7, hfz_8, hfz_9, hfz_10, hfz_11⟩ := cells12 K0.out)
    | (go_at_call 25; (with_reducible refine (impl_okPrefix.calls a0_7 a0_8 _ _ E1.out).mono ?_); rintro e w2 ⟨rfl, hb⟩; have C1 := Aside0.mk (below_step C0.out hb); have K1 := Aside0.mk (blk_below K0.out hb); clear hb; obtain ⟨⟨hcz_0, hcz_1, hcz_2, hcz_3, hcz_4, hcz_5, hcz_6, hcz_7, hcz_8, hcz_9, hcz_10, hcz_11⟩, hfz_0, hfz_1, hfz_2, hfz_3, hfz_4, hfz_5, hfz_6, hfz_7, hfz_8, hfz_9, hfz_10, hfz_11⟩ := cells12 K1.out)
    | (fail))
  go_ret
  exact ⟨by first | rfl | (simp; done) | (simp [*]; done), by first | exact C1.out | (repeat (first | exact C1.out | apply pw_below_drewN | apply below_drew1))⟩
set_option maxHeartbeats 60000000 in
set_option maxRecDepth 100000 in
theorem impl_okRule.q6_call2 (a0_0 a0_1 a0_2 a0_3 a0_4 a0_5 a0_6 a0_7 a0_8 a0_9 a0_10 a0_11 : Int) (w : World) (c0 : decide (1 ≤ a0_0) = true) (c1 : decide (a0_0 ≤ 3) = true) (c2 : decide (1 ≤ a0_1) = true) (c3 : decide (a0_1 ≤ 3) = true) (c4 : decide (0 ≤ a0_11) = true) (c5 : decide (a0_11 ≤ 4) = true) (e0 : impl_okPrefix.f a0_3 a0_4 = some true) (e1 : impl_okPrefix.f a0_7 a0_8 = some true) (e2 : impl_isPort.f a0_5 = some false) :
    Calls Tryd.prog 14 #[.agg #[.int .i64 a0_0, .int .i64 a0_1, .int .i64 6, .int .i64 a0_3, .int .i64 a0_4, .int .i64 a0_5, .int .i64 a0_6, .int .i64 a0_7, .int .i64 a0_8, .int .i64 a0_9, .int .i64 a0_10, .int .i64 a0_11]] w fun e w' => e = .returned (.bool false) ∧ Below w.heap.size w w' := by
  have hu33 := Tryd.underlying33
  have hu31 := Tryd.underlying31
  have HB := Aside0.mk (Below.refl w.heap.size w)
  have E0 := Aside0.mk e0
  have E1 := Aside0.mk e1
  have E2 := Aside0.mk e2
  clear e0 e1 e2
  go_enter Tryd.func14, Tryd.ntmps14
  go_upto_region 1 with (first
    | ((with_reducible refine gate_dst (N := 1) rfl ?_); refine box_event ?hg (N := 1) ?hd (cs := #[.int .i64 a0_0, .int .i64 a0_1, .int .i64 6, .int .i64 a0_3, .int .i64 a0_4, .int .i64 a0_5, .int .i64 a0_6, .int .i64 a0_7, .int .i64 a0_8, .int .i64 a0_9, .int .i64 a0_10, .int .i64 a0_11]) (t := 33) ?hr ?_; (case hd => rfl); (case hg => rfl); (case hr => first | (go_simp; done) | (go_simp; rfl)); intro gb hg w1 hbox hb; have B1 := Aside0.mk (below_step HB.out hb); have BK := Aside0.mk hbox; clear hb hbox hg; obtain ⟨⟨hcz_0, hcz_1, hcz_2, hcz_3, hcz_4, hcz_5, hcz_6, hcz_7, hcz_8, hcz_9, hcz_10, hcz_11⟩, hfz_0, hfz_1, hfz_2, hfz_3, hfz_4, hfz_5, hfz_6, hfz_7, hfz_8, hfz_9, hfz_10, hfz_11⟩ := cells12 BK.out))
  refine wp_region_lit ?_
  simp only [List.append_eq, List.cons_append, List.nil_append]
  go_wp2_with (first
    | (go_at_call 25; (with_reducible refine (impl_okPrefix.calls a0_3 a0_4 _ _ E0.out).mono ?_); rintro e w2 ⟨rfl, hb⟩; have C0 := Aside0.mk (below_step B1.out hb); have K0 := Aside0.mk (blk_below BK.out hb); clear hb; obtain ⟨⟨hcz_0, hcz_1, hcz_2, hcz_3, hcz_4, hcz_5, hcz_6, hcz_7, hcz_8, hcz_9, hcz_10, hcz_11⟩, hfz_0, hfz_1, hfz_2, hfz_3, hfz_4, hfz_5, hfz_6, hfz_7, hfz_8, hfz_9, hfz_10, hfz_11⟩ := cells12 K0.out)
    | (go_at_call 25; (with_reducible refine (impl_okPrefix.calls a0_7 a0_8 _ _ E1.out).mono ?_); rintro e w2 ⟨rfl, hb⟩; have C1 := Aside0.mk (below_step C0.out hb); have K1 := Aside0.mk (blk_below K0.out hb); clear hb; obtain ⟨⟨hcz_0, hcz_1, hcz_2, hcz_3, hcz_4, hcz_5, hcz_6, hcz_7, hcz_8, hcz_9, hcz_10, hcz_11⟩, hfz_0, hfz_1, hfz_2, hfz_3, hfz_4, hfz_5, hfz_6, hfz_7, hfz_8, hfz_9, hfz_10, hfz_11⟩ := cells12 K1.out)
    | (go_at_call 26; (with_reducible refine (impl_isPort.calls a0_5 _ _ E2.out).mono ?_); rintro e w' ⟨rfl, ⟨nd, rfl⟩⟩)
    | (fail))
  go_ret
  exact ⟨by first | rfl | (simp; done) | (simp [*]; done), by first | exact C1.out | (repeat (first | exact C1.out | apply pw_below_drewN | apply below_drew1))⟩
set_option maxHeartbeats 60000000 in
set_option maxRecDepth 100000 in
theorem impl_okRule.q6_call3 (a0_0 a0_1 a0_2 a0_3 a0_4 a0_5 a0_6 a0_7 a0_8 a0_9 a0_10 a0_11 : Int) (w : World) (c0 : decide (1 ≤ a0_0) = true) (c1 : decide (a0_0 ≤ 3) = true) (c2 : decide (1 ≤ a0_1) = true) (c3 : decide (a0_1 ≤ 3) = true) (c4 : decide (0 ≤ a0_11) = true) (c5 : decide (a0_11 ≤ 4) = true) (e0 : impl_okPrefix.f a0_3 a0_4 = some true) (e1 : impl_okPrefix.f a0_7 a0_8 = some true) (e2 : impl_isPort.f a0_5 = some true) (e3 : impl_isPort.f a0_6 = some false) :
    Calls Tryd.prog 14 #[.agg #[.int .i64 a0_0, .int .i64 a0_1, .int .i64 6, .int .i64 a0_3, .int .i64 a0_4, .int .i64 a0_5, .int .i64 a0_6, .int .i64 a0_7, .int .i64 a0_8, .int .i64 a0_9, .int .i64 a0_10, .int .i64 a0_11]] w fun e w' => e = .returned (.bool false) ∧ Below w.heap.size w w' := by
  have hu33 := Tryd.underlying33
  have hu31 := Tryd.underlying31
  have HB := Aside0.mk (Below.refl w.heap.size w)
  have E0 := Aside0.mk e0
  have E1 := Aside0.mk e1
  have E2 := Aside0.mk e2
  have E3 := Aside0.mk e3
  clear e0 e1 e2 e3
  go_enter Tryd.func14, Tryd.ntmps14
  go_upto_region 1 with (first
    | ((with_reducible refine gate_dst (N := 1) rfl ?_); refine box_event ?hg (N := 1) ?hd (cs := #[.int .i64 a0_0, .int .i64 a0_1, .int .i64 6, .int .i64 a0_3, .int .i64 a0_4, .int .i64 a0_5, .int .i64 a0_6, .int .i64 a0_7, .int .i64 a0_8, .int .i64 a0_9, .int .i64 a0_10, .int .i64 a0_11]) (t := 33) ?hr ?_; (case hd => rfl); (case hg => rfl); (case hr => first | (go_simp; done) | (go_simp; rfl)); intro gb hg w1 hbox hb; have B1 := Aside0.mk (below_step HB.out hb); have BK := Aside0.mk hbox; clear hb hbox hg; obtain ⟨⟨hcz_0, hcz_1, hcz_2, hcz_3, hcz_4, hcz_5, hcz_6, hcz_7, hcz_8, hcz_9, hcz_10, hcz_11⟩, hfz_0, hfz_1, hfz_2, hfz_3, hfz_4, hfz_5, hfz_6, hfz_7, hfz_8, hfz_9, hfz_10, hfz_11⟩ := cells12 BK.out))
  refine wp_region_lit ?_
  simp only [List.append_eq, List.cons_append, List.nil_append]
  go_wp2_with (first
    | (go_at_call 25; (with_reducible refine (impl_okPrefix.calls a0_3 a0_4 _ _ E0.out).mono ?_); rintro e w2 ⟨rfl, hb⟩; have C0 := Aside0.mk (below_step B1.out hb); have K0 := Aside0.mk (blk_below BK.out hb); clear hb; obtain ⟨⟨hcz_0, hcz_1, hcz_2, hcz_3, hcz_4, hcz_5, hcz_6, hcz_7, hcz_8, hcz_9, hcz_10, hcz_11⟩, hfz_0, hfz_1, hfz_2, hfz_3, hfz_4, hfz_5, hfz_6, hfz_7, hfz_8, hfz_9, hfz_10, hfz_11⟩ := cells12 K0.out)
    | (go_at_call 25; (with_reducible refine (impl_okPrefix.calls a0_7 a0_8 _ _ E1.out).mono ?_); rintro e w2 ⟨rfl, hb⟩; have C1 := Aside0.mk (below_step C0.out hb); have K1 := Aside0.mk (blk_below K0.out hb); clear hb; obtain ⟨⟨hcz_0, hcz_1, hcz_2, hcz_3, hcz_4, hcz_5, hcz_6, hcz_7, hcz_8, hcz_9, hcz_10, hcz_11⟩, hfz_0, hfz_1, hfz_2, hfz_3, hfz_4, hfz_5, hfz_6, hfz_7, hfz_8, hfz_9, hfz_10, hfz_11⟩ := cells12 K1.out)
    | (go_at_call 26; (with_reducible refine (impl_isPort.calls a0_5 _ _ E2.out).mono ?_); rintro e w' ⟨rfl, ⟨nd, rfl⟩⟩)
    | (go_at_call 26; (with_reducible refine (impl_isPort.calls a0_6 _ _ E3.out).mono ?_); rintro e w' ⟨rfl, ⟨nd, rfl⟩⟩)
    | (fail))
  go_ret
  exact ⟨by first | rfl | (simp; done) | (simp [*]; done), by first | exact C1.out | (repeat (first | exact C1.out | apply pw_below_drewN | apply below_drew1))⟩
set_option maxHeartbeats 60000000 in
set_option maxRecDepth 100000 in
theorem impl_okRule.q6_call4 (a0_0 a0_1 a0_2 a0_3 a0_4 a0_5 a0_6 a0_7 a0_8 a0_9 a0_10 a0_11 : Int) (w : World) (c0 : decide (1 ≤ a0_0) = true) (c1 : decide (a0_0 ≤ 3) = true) (c2 : decide (1 ≤ a0_1) = true) (c3 : decide (a0_1 ≤ 3) = true) (c4 : decide (0 ≤ a0_11) = true) (c5 : decide (a0_11 ≤ 4) = true) (e0 : impl_okPrefix.f a0_3 a0_4 = some true) (e1 : impl_okPrefix.f a0_7 a0_8 = some true) (e2 : impl_isPort.f a0_5 = some true) (e3 : impl_isPort.f a0_6 = some true) (e4 : impl_isPort.f a0_9 = some false) :
    Calls Tryd.prog 14 #[.agg #[.int .i64 a0_0, .int .i64 a0_1, .int .i64 6, .int .i64 a0_3, .int .i64 a0_4, .int .i64 a0_5, .int .i64 a0_6, .int .i64 a0_7, .int .i64 a0_8, .int .i64 a0_9, .int .i64 a0_10, .int .i64 a0_11]] w fun e w' => e = .returned (.bool false) ∧ Below w.heap.size w w' := by
  have hu33 := Tryd.underlying33
  have hu31 := Tryd.underlying31
  have HB := Aside0.mk (Below.refl w.heap.size w)
  have E0 := Aside0.mk e0
  have E1 := Aside0.mk e1
  have E2 := Aside0.mk e2
  have E3 := Aside0.mk e3
  have E4 := Aside0.mk e4
  clear e0 e1 e2 e3 e4
  go_enter Tryd.func14, Tryd.ntmps14
  go_upto_region 1 with (first
    | ((with_reducible refine gate_dst (N := 1) rfl ?_); refine box_event ?hg (N := 1) ?hd (cs := #[.int .i64 a0_0, .int .i64 a0_1, .int .i64 6, .int .i64 a0_3, .int .i64 a0_4, .int .i64 a0_5, .int .i64 a0_6, .int .i64 a0_7, .int .i64 a0_8, .int .i64 a0_9, .int .i64 a0_10, .int .i64 a0_11]) (t := 33) ?hr ?_; (case hd => rfl); (case hg => rfl); (case hr => first | (go_simp; done) | (go_simp; rfl)); intro gb hg w1 hbox hb; have B1 := Aside0.mk (below_step HB.out hb); have BK := Aside0.mk hbox; clear hb hbox hg; obtain ⟨⟨hcz_0, hcz_1, hcz_2, hcz_3, hcz_4, hcz_5, hcz_6, hcz_7, hcz_8, hcz_9, hcz_10, hcz_11⟩, hfz_0, hfz_1, hfz_2, hfz_3, hfz_4, hfz_5, hfz_6, hfz_7, hfz_8, hfz_9, hfz_10, hfz_11⟩ := cells12 BK.out))
  refine wp_region_lit ?_
  simp only [List.append_eq, List.cons_append, List.nil_append]
  go_wp2_with (first
    | (go_at_call 25; (with_reducible refine (impl_okPrefix.calls a0_3 a0_4 _ _ E0.out).mono ?_); rintro e w2 ⟨rfl, hb⟩; have C0 := Aside0.mk (below_step B1.out hb); have K0 := Aside0.mk (blk_below BK.out hb); clear hb; obtain ⟨⟨hcz_0, hcz_1, hcz_2, hcz_3, hcz_4, hcz_5, hcz_6, hcz_7, hcz_8, hcz_9, hcz_10, hcz_11⟩, hfz_0, hfz_1, hfz_2, hfz_3, hfz_4, hfz_5, hfz_6, hfz_7, hfz_8, hfz_9, hfz_10, hfz_11⟩ := cells12 K0.out)
    | (go_at_call 25; (with_reducible refine (impl_okPrefix.calls a0_7 a0_8 _ _ E1.out).mono ?_); rintro e w2 ⟨rfl, hb⟩; have C1 := Aside0.mk (below_step C0.out hb); have K1 := Aside0.mk (blk_below K0.out hb); clear hb; obtain ⟨⟨hcz_0, hcz_1, hcz_2, hcz_3, hcz_4, hcz_5, hcz_6, hcz_7, hcz_8, hcz_9, hcz_10, hcz_11⟩, hfz_0, hfz_1, hfz_2, hfz_3, hfz_4, hfz_5, hfz_6, hfz_7, hfz_8, hfz_9, hfz_10, hfz_11⟩ := cells12 K1.out)
    | (go_at_call 26; (with_reducible refine (impl_isPort.calls a0_5 _ _ E2.out).mono ?_); rintro e w' ⟨rfl, ⟨nd, rfl⟩⟩)
    | (go_at_call 26; (with_reducible refine (impl_isPort.calls a0_6 _ _ E3.out).mono ?_); rintro e w' ⟨rfl, ⟨nd, rfl⟩⟩)
    | (go_at_call 26; (with_reducible refine (impl_isPort.calls a0_9 _ _ E4.out).mono ?_); rintro e w' ⟨rfl, ⟨nd, rfl⟩⟩)
    | (fail))
  go_ret
  exact ⟨by first | rfl | (simp; done) | (simp [*]; done), by first | exact C1.out | (repeat (first | exact C1.out | apply pw_below_drewN | apply below_drew1))⟩
set_option maxHeartbeats 60000000 in
set_option maxRecDepth 100000 in
theorem impl_okRule.q6_call5 (a0_0 a0_1 a0_2 a0_3 a0_4 a0_5 a0_6 a0_7 a0_8 a0_9 a0_10 a0_11 : Int) (w : World) (c0 : decide (1 ≤ a0_0) = true) (c1 : decide (a0_0 ≤ 3) = true) (c2 : decide (1 ≤ a0_1) = true) (c3 : decide (a0_1 ≤ 3) = true) (c4 : decide (0 ≤ a0_11) = true) (c5 : decide (a0_11 ≤ 4) = true) (e0 : impl_okPrefix.f a0_3 a0_4 = some true) (e1 : impl_okPrefix.f a0_7 a0_8 = some true) (e2 : impl_isPort.f a0_5 = some true) (e3 : impl_isPort.f a0_6 = some true) (e4 : impl_isPort.f a0_9 = some true) (e5 : impl_isPort.f a0_10 = some false) :
    Calls Tryd.prog 14 #[.agg #[.int .i64 a0_0, .int .i64 a0_1, .int .i64 6, .int .i64 a0_3, .int .i64 a0_4, .int .i64 a0_5, .int .i64 a0_6, .int .i64 a0_7, .int .i64 a0_8, .int .i64 a0_9, .int .i64 a0_10, .int .i64 a0_11]] w fun e w' => e = .returned (.bool false) ∧ Below w.heap.size w w' := by
  have hu33 := Tryd.underlying33
  have hu31 := Tryd.underlying31
  have HB := Aside0.mk (Below.refl w.heap.size w)
  have E0 := Aside0.mk e0
  have E1 := Aside0.mk e1
  have E2 := Aside0.mk e2
  have E3 := Aside0.mk e3
  have E4 := Aside0.mk e4
  have E5 := Aside0.mk e5
  clear e0 e1 e2 e3 e4 e5
  go_enter Tryd.func14, Tryd.ntmps14
  go_upto_region 1 with (first
    | ((with_reducible refine gate_dst (N := 1) rfl ?_); refine box_event ?hg (N := 1) ?hd (cs := #[.int .i64 a0_0, .int .i64 a0_1, .int .i64 6, .int .i64 a0_3, .int .i64 a0_4, .int .i64 a0_5, .int .i64 a0_6, .int .i64 a0_7, .int .i64 a0_8, .int .i64 a0_9, .int .i64 a0_10, .int .i64 a0_11]) (t := 33) ?hr ?_; (case hd => rfl); (case hg => rfl); (case hr => first | (go_simp; done) | (go_simp; rfl)); intro gb hg w1 hbox hb; have B1 := Aside0.mk (below_step HB.out hb); have BK := Aside0.mk hbox; clear hb hbox hg; obtain ⟨⟨hcz_0, hcz_1, hcz_2, hcz_3, hcz_4, hcz_5, hcz_6, hcz_7, hcz_8, hcz_9, hcz_10, hcz_11⟩, hfz_0, hfz_1, hfz_2, hfz_3, hfz_4, hfz_5, hfz_6, hfz_7, hfz_8, hfz_9, hfz_10, hfz_11⟩ := cells12 BK.out))
  refine wp_region_lit ?_
  simp only [List.append_eq, List.cons_append, List.nil_append]
  go_wp2_with (first
    | (go_at_call 25; (with_reducible refine (impl_okPrefix.calls a0_3 a0_4 _ _ E0.out).mono ?_); rintro e w2 ⟨rfl, hb⟩; have C0 := Aside0.mk (below_step B1.out hb); have K0 := Aside0.mk (blk_below BK.out hb); clear hb; obtain ⟨⟨hcz_0, hcz_1, hcz_2, hcz_3, hcz_4, hcz_5, hcz_6, hcz_7, hcz_8, hcz_9, hcz_10, hcz_11⟩, hfz_0, hfz_1, hfz_2, hfz_3, hfz_4, hfz_5, hfz_6, hfz_7, hfz_8, hfz_9, hfz_10, hfz_11⟩ := cells12 K0.out)
    | (go_at_call 25; (with_reducible refine (impl_okPrefix.calls a0_7 a0_8 _ _ E1.out).mono ?_); rintro e w2 ⟨rfl, hb⟩; have C1 := Aside0.mk (below_step C0.out hb); have K1 := Aside0.mk (blk_below K0.out hb); clear hb; obtain ⟨⟨hcz_0, hcz_1, hcz_2, hcz_3, hcz_4, hcz_5, hcz_6, hcz_7, hcz_8, hcz_9, hcz_10, hcz_11⟩, hfz_0, hfz_1, hfz_2, hfz_3, hfz_4, hfz_5, hfz_6, hfz_7, hfz_8, hfz_9, hfz_10, hfz_11⟩ := cells12 K1.out)
    | (go_at_call 26; (with_reducible refine (impl_isPort.calls a0_5 _ _ E2.out).mono ?_); rintro e w' ⟨rfl, ⟨nd, rfl⟩⟩)
    | (go_at_call 26; (with_reducible refine (impl_isPort.calls a0_6 _ _ E3.out).mono ?_); rintro e w' ⟨rfl, ⟨nd, rfl⟩⟩)
    | (go_at_call 26; (with_reducible refine (impl_isPort.calls a0_9 _ _ E4.out).mono ?_); rintro e w' ⟨rfl, ⟨nd, rfl⟩⟩)
    | (go_at_call 26; (with_reducible refine (impl_isPort.calls a0_10 _ _ E5.out).mono ?_); rintro e w' ⟨rfl, ⟨nd, rfl⟩⟩)
    | (fail))
  go_ret
  exact ⟨by first | rfl | (simp; done) | (simp [*]; done), by first | exact C1.out | (repeat (first | exact C1.out | apply pw_below_drewN | apply below_drew1))⟩
set_option maxHeartbeats 60000000 in
set_option maxRecDepth 100000 in
theorem impl_okRule.q6_cmp0 (a0_0 a0_1 a0_2 a0_3 a0_4 a0_5 a0_6 a0_7 a0_8 a0_9 a0_10 a0_11 : Int) (w : World) (c0 : decide (1 ≤ a0_0) = true) (c1 : decide (a0_0 ≤ 3) = true) (c2 : decide (1 ≤ a0_1) = true) (c3 : decide (a0_1 ≤ 3) = true) (c4 : decide (0 ≤ a0_11) = true) (c5 : decide (a0_11 ≤ 4) = true) (e0 : impl_okPrefix.f a0_3 a0_4 = some true) (e1 : impl_okPrefix.f a0_7 a0_8 = some true) (e2 : impl_isPort.f a0_5 = some true) (e3 : impl_isPort.f a0_6 = some true) (e4 : impl_isPort.f a0_9 = some true) (e5 : impl_isPort.f a0_10 = some true) (d0 : decide (a0_5 ≤ a0_6) = false) :
    Calls Tryd.prog 14 #[.agg #[.int .i64 a0_0, .int .i64 a0_1, .int .i64 6, .int .i64 a0_3, .int .i64 a0_4, .int .i64 a0_5, .int .i64 a0_6, .int .i64 a0_7, .int .i64 a0_8, .int .i64 a0_9, .int .i64 a0_10, .int .i64 a0_11]] w fun e w' => e = .returned (.bool false) ∧ Below w.heap.size w w' := by
  have hu33 := Tryd.underlying33
  have hu31 := Tryd.underlying31
  have HB := Aside0.mk (Below.refl w.heap.size w)
  have E0 := Aside0.mk e0
  have E1 := Aside0.mk e1
  have E2 := Aside0.mk e2
  have E3 := Aside0.mk e3
  have E4 := Aside0.mk e4
  have E5 := Aside0.mk e5
  clear e0 e1 e2 e3 e4 e5
  go_enter Tryd.func14, Tryd.ntmps14
  go_upto_region 1 with (first
    | ((with_reducible refine gate_dst (N := 1) rfl ?_); refine box_event ?hg (N := 1) ?hd (cs := #[.int .i64 a0_0, .int .i64 a0_1, .int .i64 6, .int .i64 a0_3, .int .i64 a0_4, .int .i64 a0_5, .int .i64 a0_6, .int .i64 a0_7, .int .i64 a0_8, .int .i64 a0_9, .int .i64 a0_10, .int .i64 a0_11]) (t := 33) ?hr ?_; (case hd => rfl); (case hg => rfl); (case hr => first | (go_simp; done) | (go_simp; rfl)); intro gb hg w1 hbox hb; have B1 := Aside0.mk (below_step HB.out hb); have BK := Aside0.mk hbox; clear hb hbox hg; obtain ⟨⟨hcz_0, hcz_1, hcz_2, hcz_3, hcz_4, hcz_5, hcz_6, hcz_7, hcz_8, hcz_9, hcz_10, hcz_11⟩, hfz_0, hfz_1, hfz_2, hfz_3, hfz_4, hfz_5, hfz_6, hfz_7, hfz_8, hfz_9, hfz_10, hfz_11⟩ := cells12 BK.out))
  refine wp_region_lit ?_
  simp only [List.append_eq, List.cons_append, List.nil_append]
  go_wp2_with (first
    | (go_at_call 25; (with_reducible refine (impl_okPrefix.calls a0_3 a0_4 _ _ E0.out).mono ?_); rintro e w2 ⟨rfl, hb⟩; have C0 := Aside0.mk (below_step B1.out hb); have K0 := Aside0.mk (blk_below BK.out hb); clear hb; obtain ⟨⟨hcz_0, hcz_1, hcz_2, hcz_3, hcz_4, hcz_5, hcz_6, hcz_7, hcz_8, hcz_9, hcz_10, hcz_11⟩, hfz_0, hfz_1, hfz_2, hfz_3, hfz_4, hfz_5, hfz_6, hfz_7, hfz_8, hfz_9, hfz_10, hfz_11⟩ := cells12 K0.out)
    | (go_at_call 25; (with_reducible refine (impl_okPrefix.calls a0_7 a0_8 _ _ E1.out).mono ?_); rintro e w2 ⟨rfl, hb⟩; have C1 := Aside0.mk (below_step C0.out hb); have K1 := Aside0.mk (blk_below K0.out hb); clear hb; obtain ⟨⟨hcz_0, hcz_1, hcz_2, hcz_3, hcz_4, hcz_5, hcz_6, hcz_7, hcz_8, hcz_9, hcz_10, hcz_11⟩, hfz_0, hfz_1, hfz_2, hfz_3, hfz_4, hfz_5, hfz_6, hfz_7, hfz_8, hfz_9, hfz_10, hfz_11⟩ := cells12 K1.out)
    | (go_at_call 26; (with_reducible refine (impl_isPort.calls a0_5 _ _ E2.out).mono ?_); rintro e w' ⟨rfl, ⟨nd, rfl⟩⟩)
    | (go_at_call 26; (with_reducible refine (impl_isPort.calls a0_6 _ _ E3.out).mono ?_); rintro e w' ⟨rfl, ⟨nd, rfl⟩⟩)
    | (go_at_call 26; (with_reducible refine (impl_isPort.calls a0_9 _ _ E4.out).mono ?_); rintro e w' ⟨rfl, ⟨nd, rfl⟩⟩)
    | (go_at_call 26; (with_reducible refine (impl_isPort.calls a0_10 _ _ E5.out).mono ?_); rintro e w' ⟨rfl, ⟨nd, rfl⟩⟩)
    | (fail))
  go_ret
  exact ⟨by first | rfl | (simp; done) | (simp [*]; done), by first | exact C1.out | (repeat (first | exact C1.out | apply pw_below_drewN | apply below_drew1))⟩
set_option maxHeartbeats 60000000 in
set_option maxRecDepth 100000 in
theorem impl_okRule.q6_cmp1 (a0_0 a0_1 a0_2 a0_3 a0_4 a0_5 a0_6 a0_7 a0_8 a0_9 a0_10 a0_11 : Int) (w : World) (c0 : decide (1 ≤ a0_0) = true) (c1 : decide (a0_0 ≤ 3) = true) (c2 : decide (1 ≤ a0_1) = true) (c3 : decide (a0_1 ≤ 3) = true) (c4 : decide (0 ≤ a0_11) = true) (c5 : decide (a0_11 ≤ 4) = true) (e0 : impl_okPrefix.f a0_3 a0_4 = some true) (e1 : impl_okPrefix.f a0_7 a0_8 = some true) (e2 : impl_isPort.f a0_5 = some true) (e3 : impl_isPort.f a0_6 = some true) (e4 : impl_isPort.f a0_9 = some true) (e5 : impl_isPort.f a0_10 = some true) (d0 : decide (a0_5 ≤ a0_6) = true) (d1 : decide (a0_9 ≤ a0_10) = false) :
    Calls Tryd.prog 14 #[.agg #[.int .i64 a0_0, .int .i64 a0_1, .int .i64 6, .int .i64 a0_3, .int .i64 a0_4, .int .i64 a0_5, .int .i64 a0_6, .int .i64 a0_7, .int .i64 a0_8, .int .i64 a0_9, .int .i64 a0_10, .int .i64 a0_11]] w fun e w' => e = .returned (.bool false) ∧ Below w.heap.size w w' := by
  have hu33 := Tryd.underlying33
  have hu31 := Tryd.underlying31
  have HB := Aside0.mk (Below.refl w.heap.size w)
  have E0 := Aside0.mk e0
  have E1 := Aside0.mk e1
  have E2 := Aside0.mk e2
  have E3 := Aside0.mk e3
  have E4 := Aside0.mk e4
  have E5 := Aside0.mk e5
  clear e0 e1 e2 e3 e4 e5
  go_enter Tryd.func14, Tryd.ntmps14
  go_upto_region 1 with (first
    | ((with_reducible refine gate_dst (N := 1) rfl ?_); refine box_event ?hg (N := 1) ?hd (cs := #[.int .i64 a0_0, .int .i64 a0_1, .int .i64 6, .int .i64 a0_3, .int .i64 a0_4, .int .i64 a0_5, .int .i64 a0_6, .int .i64 a0_7, .int .i64 a0_8, .int .i64 a0_9, .int .i64 a0_10, .int .i64 a0_11]) (t := 33) ?hr ?_; (case hd => rfl); (case hg => rfl); (case hr => first | (go_simp; done) | (go_simp; rfl)); intro gb hg w1 hbox hb; have B1 := Aside0.mk (below_step HB.out hb); have BK := Aside0.mk hbox; clear hb hbox hg; obtain ⟨⟨hcz_0, hcz_1, hcz_2, hcz_3, hcz_4, hcz_5, hcz_6, hcz_7, hcz_8, hcz_9, hcz_10, hcz_11⟩, hfz_0, hfz_1, hfz_2, hfz_3, hfz_4, hfz_5, hfz_6, hfz_7, hfz_8, hfz_9, hfz_10, hfz_11⟩ := cells12 BK.out))
  refine wp_region_lit ?_
  simp only [List.append_eq, List.cons_append, List.nil_append]
  go_wp2_with (first
    | (go_at_call 25; (with_reducible refine (impl_okPrefix.calls a0_3 a0_4 _ _ E0.out).mono ?_); rintro e w2 ⟨rfl, hb⟩; have C0 := Aside0.mk (below_step B1.out hb); have K0 := Aside0.mk (blk_below BK.out hb); clear hb; obtain ⟨⟨hcz_0, hcz_1, hcz_2, hcz_3, hcz_4, hcz_5, hcz_6, hcz_7, hcz_8, hcz_9, hcz_10, hcz_11⟩, hfz_0, hfz_1, hfz_2, hfz_3, hfz_4, hfz_5, hfz_6, hfz_7, hfz_8, hfz_9, hfz_10, hfz_11⟩ := cells12 K0.out)
    | (go_at_call 25; (with_reducible refine (impl_okPrefix.calls a0_7 a0_8 _ _ E1.out).mono ?_); rintro e w2 ⟨rfl, hb⟩; have C1 := Aside0.mk (below_step C0.out hb); have K1 := Aside0.mk (blk_below K0.out hb); clear hb; obtain ⟨⟨hcz_0, hcz_1, hcz_2, hcz_3, hcz_4, hcz_5, hcz_6, hcz_7, hcz_8, hcz_9, hcz_10, hcz_11⟩, hfz_0, hfz_1, hfz_2, hfz_3, hfz_4, hfz_5, hfz_6, hfz_7, hfz_8, hfz_9, hfz_10, hfz_11⟩ := cells12 K1.out)
    | (go_at_call 26; (with_reducible refine (impl_isPort.calls a0_5 _ _ E2.out).mono ?_); rintro e w' ⟨rfl, ⟨nd, rfl⟩⟩)
    | (go_at_call 26; (with_reducible refine (impl_isPort.calls a0_6 _ _ E3.out).mono ?_); rintro e w' ⟨rfl, ⟨nd, rfl⟩⟩)
    | (go_at_call 26; (with_reducible refine (impl_isPort.calls a0_9 _ _ E4.out).mono ?_); rintro e w' ⟨rfl, ⟨nd, rfl⟩⟩)
    | (go_at_call 26; (with_reducible refine (impl_isPort.calls a0_10 _ _ E5.out).mono ?_); rintro e w' ⟨rfl, ⟨nd, rfl⟩⟩)
    | (fail))
  go_ret
  exact ⟨by first | rfl | (simp; done) | (simp [*]; done), by first | exact C1.out | (repeat (first | exact C1.out | apply pw_below_drewN | apply below_drew1))⟩
set_option maxHeartbeats 60000000 in
set_option maxRecDepth 100000 in
theorem impl_okRule.q6_all (a0_0 a0_1 a0_2 a0_3 a0_4 a0_5 a0_6 a0_7 a0_8 a0_9 a0_10 a0_11 : Int) (w : World) (c0 : decide (1 ≤ a0_0) = true) (c1 : decide (a0_0 ≤ 3) = true) (c2 : decide (1 ≤ a0_1) = true) (c3 : decide (a0_1 ≤ 3) = true) (c4 : decide (0 ≤ a0_11) = true) (c5 : decide (a0_11 ≤ 4) = true) (e0 : impl_okPrefix.f a0_3 a0_4 = some true) (e1 : impl_okPrefix.f a0_7 a0_8 = some true) (e2 : impl_isPort.f a0_5 = some true) (e3 : impl_isPort.f a0_6 = some true) (e4 : impl_isPort.f a0_9 = some true) (e5 : impl_isPort.f a0_10 = some true) (d0 : decide (a0_5 ≤ a0_6) = true) (d1 : decide (a0_9 ≤ a0_10) = true) :
    Calls Tryd.prog 14 #[.agg #[.int .i64 a0_0, .int .i64 a0_1, .int .i64 6, .int .i64 a0_3, .int .i64 a0_4, .int .i64 a0_5, .int .i64 a0_6, .int .i64 a0_7, .int .i64 a0_8, .int .i64 a0_9, .int .i64 a0_10, .int .i64 a0_11]] w fun e w' => e = .returned (.bool true) ∧ Below w.heap.size w w' := by
  have hu33 := Tryd.underlying33
  have hu31 := Tryd.underlying31
  have HB := Aside0.mk (Below.refl w.heap.size w)
  have E0 := Aside0.mk e0
  have E1 := Aside0.mk e1
  have E2 := Aside0.mk e2
  have E3 := Aside0.mk e3
  have E4 := Aside0.mk e4
  have E5 := Aside0.mk e5
  clear e0 e1 e2 e3 e4 e5
  go_enter Tryd.func14, Tryd.ntmps14
  go_upto_region 1 with (first
    | ((with_reducible refine gate_dst (N := 1) rfl ?_); refine box_event ?hg (N := 1) ?hd (cs := #[.int .i64 a0_0, .int .i64 a0_1, .int .i64 6, .int .i64 a0_3, .int .i64 a0_4, .int .i64 a0_5, .int .i64 a0_6, .int .i64 a0_7, .int .i64 a0_8, .int .i64 a0_9, .int .i64 a0_10, .int .i64 a0_11]) (t := 33) ?hr ?_; (case hd => rfl); (case hg => rfl); (case hr => first | (go_simp; done) | (go_simp; rfl)); intro gb hg w1 hbox hb; have B1 := Aside0.mk (below_step HB.out hb); have BK := Aside0.mk hbox; clear hb hbox hg; obtain ⟨⟨hcz_0, hcz_1, hcz_2, hcz_3, hcz_4, hcz_5, hcz_6, hcz_7, hcz_8, hcz_9, hcz_10, hcz_11⟩, hfz_0, hfz_1, hfz_2, hfz_3, hfz_4, hfz_5, hfz_6, hfz_7, hfz_8, hfz_9, hfz_10, hfz_11⟩ := cells12 BK.out))
  refine wp_region_lit ?_
  simp only [List.append_eq, List.cons_append, List.nil_append]
  go_wp2_with (first
    | (go_at_call 25; (with_reducible refine (impl_okPrefix.calls a0_3 a0_4 _ _ E0.out).mono ?_); rintro e w2 ⟨rfl, hb⟩; have C0 := Aside0.mk (below_step B1.out hb); have K0 := Aside0.mk (blk_below BK.out hb); clear hb; obtain ⟨⟨hcz_0, hcz_1, hcz_2, hcz_3, hcz_4, hcz_5, hcz_6, hcz_7, hcz_8, hcz_9, hcz_10, hcz_11⟩, hfz_0, hfz_1, hfz_2, hfz_3, hfz_4, hfz_5, hfz_6, hfz_7, hfz_8, hfz_9, hfz_10, hfz_11⟩ := cells12 K0.out)
    | (go_at_call 25; (with_reducible refine (impl_okPrefix.calls a0_7 a0_8 _ _ E1.out).mono ?_); rintro e w2 ⟨rfl, hb⟩; have C1 := Aside0.mk (below_step C0.out hb); have K1 := Aside0.mk (blk_below K0.out hb); clear hb; obtain ⟨⟨hcz_0, hcz_1, hcz_2, hcz_3, hcz_4, hcz_5, hcz_6, hcz_7, hcz_8, hcz_9, hcz_10, hcz_11⟩, hfz_0, hfz_1, hfz_2, hfz_3, hfz_4, hfz_5, hfz_6, hfz_7, hfz_8, hfz_9, hfz_10, hfz_11⟩ := cells12 K1.out)
    | (go_at_call 26; (with_reducible refine (impl_isPort.calls a0_5 _ _ E2.out).mono ?_); rintro e w' ⟨rfl, ⟨nd, rfl⟩⟩)
    | (go_at_call 26; (with_reducible refine (impl_isPort.calls a0_6 _ _ E3.out).mono ?_); rintro e w' ⟨rfl, ⟨nd, rfl⟩⟩)
    | (go_at_call 26; (with_reducible refine (impl_isPort.calls a0_9 _ _ E4.out).mono ?_); rintro e w' ⟨rfl, ⟨nd, rfl⟩⟩)
    | (go_at_call 26; (with_reducible refine (impl_isPort.calls a0_10 _ _ E5.out).mono ?_); rintro e w' ⟨rfl, ⟨nd, rfl⟩⟩)
    | (fail))
  go_ret
  exact ⟨by first | rfl | (simp; done) | (simp [*]; done), by first | exact C1.out | (repeat (first | exact C1.out | apply pw_below_drewN | apply below_drew1))⟩
set_option maxHeartbeats 60000000 in
set_option maxRecDepth 100000 in
theorem impl_okRule.q17_call0 (a0_0 a0_1 a0_2 a0_3 a0_4 a0_5 a0_6 a0_7 a0_8 a0_9 a0_10 a0_11 : Int) (w : World) (c0 : decide (1 ≤ a0_0) = true) (c1 : decide (a0_0 ≤ 3) = true) (c2 : decide (1 ≤ a0_1) = true) (c3 : decide (a0_1 ≤ 3) = true) (c4 : decide (0 ≤ a0_11) = true) (c5 : decide (a0_11 ≤ 4) = true) (e0 : impl_okPrefix.f a0_3 a0_4 = some false) :
    Calls Tryd.prog 14 #[.agg #[.int .i64 a0_0, .int .i64 a0_1, .int .i64 17, .int .i64 a0_3, .int .i64 a0_4, .int .i64 a0_5, .int .i64 a0_6, .int .i64 a0_7, .int .i64 a0_8, .int .i64 a0_9, .int .i64 a0_10, .int .i64 a0_11]] w fun e w' => e = .returned (.bool false) ∧ Below w.heap.size w w' := by
  have hu33 := Tryd.underlying33
  have hu31 := Tryd.underlying31
  have HB := Aside0.mk (Below.refl w.heap.size w)
  have E0 := Aside0.mk e0
  clear e0
  go_enter Tryd.func14, Tryd.ntmps14
  go_upto_region 1 with (first
    | ((with_reducible refine gate_dst (N := 1) rfl ?_); refine box_event ?hg (N := 1) ?hd (cs := #[.int .i64 a0_0, .int .i64 a0_1, .int .i64 17, .int .i64 a0_3, .int .i64 a0_4, .int .i64 a0_5, .int .i64 a0_6, .int .i64 a0_7, .int .i64 a0_8, .int .i64 a0_9, .int .i64 a0_10, .int .i64 a0_11]) (t := 33) ?hr ?_; (case hd => rfl); (case hg => rfl); (case hr => first | (go_simp; done) | (go_simp; rfl)); intro gb hg w1 hbox hb; have B1 := Aside0.mk (below_step HB.out hb); have BK := Aside0.mk hbox; clear hb hbox hg; obtain ⟨⟨hcz_0, hcz_1, hcz_2, hcz_3, hcz_4, hcz_5, hcz_6, hcz_7, hcz_8, hcz_9, hcz_10, hcz_11⟩, hfz_0, hfz_1, hfz_2, hfz_3, hfz_4, hfz_5, hfz_6, hfz_7, hfz_8, hfz_9, hfz_10, hfz_11⟩ := cells12 BK.out))
  refine wp_region_lit ?_
  simp only [List.append_eq, List.cons_append, List.nil_append]
  go_wp2_with (first
    | (go_at_call 25; (with_reducible refine (impl_okPrefix.calls a0_3 a0_4 _ _ E0.out).mono ?_); rintro e w2 ⟨rfl, hb⟩; have C0 := Aside0.mk (below_step B1.out hb); have K0 := Aside0.mk (blk_below BK.out hb); clear hb; obtain ⟨⟨hcz_0, hcz_1, hcz_2, hcz_3, hcz_4, hcz_5, hcz_6, hcz_7, hcz_8, hcz_9, hcz_10, hcz_11⟩, hfz_0, hfz_1, hfz_2, hfz_3, hfz_4, hfz_5, hfz_6, hfz_7, hfz_8, hfz_9, hfz_10, hfz_11⟩ := cells12 K0.out)
    | (fail))
  go_ret
  exact ⟨by first | rfl | (simp; done) | (simp [*]; done), by first | exact C0.out | (repeat (first | exact C0.out | apply pw_below_drewN | apply below_drew1))⟩
set_option maxHeartbeats 60000000 in
set_option maxRecDepth 100000 in
theorem impl_okRule.q17_call1 (a0_0 a0_1 a0_2 a0_3 a0_4 a0_5 a0_6 a0_7 a0_8 a0_9 a0_10 a0_11 : Int) (w : World) (c0 : decide (1 ≤ a0_0) = true) (c1 : decide (a0_0 ≤ 3) = true) (c2 : decide (1 ≤ a0_1) = true) (c3 : decide (a0_1 ≤ 3) = true) (c4 : decide (0 ≤ a0_11) = true) (c5 : decide (a0_11 ≤ 4) = true) (e0 : impl_okPrefix.f a0_3 a0_4 = some true) (e1 : impl_okPrefix.f a0_7 a0_8 = some false) :
    Calls Tryd.prog 14 #[.agg #[.int .i64 a0_0, .int .i64 a0_1, .int .i64 17, .int .i64 a0_3, .int .i64 a0_4, .int .i64 a0_5, .int .i64 a0_6, .int .i64 a0_7, .int .i64 a0_8, .int .i64 a0_9, .int .i64 a0_10, .int .i64 a0_11]] w fun e w' => e = .returned (.bool false) ∧ Below w.heap.size w w' := by
  have hu33 := Tryd.underlying33
  have hu31 := Tryd.underlying31
  have HB := Aside0.mk (Below.refl w.heap.size w)
  have E0 := Aside0.mk e0
  have E1 := Aside0.mk e1
  clear e0 e1
  go_enter Tryd.func14, Tryd.ntmps14
  go_upto_region 1 with (first
    | ((with_reducible refine gate_dst (N := 1) rfl ?_); refine box_event ?hg (N := 1) ?hd (cs := #[.int .i64 a0_0, .int .i64 a0_1, .int .i64 17, .int .i64 a0_3, .int .i64 a0_4, .int .i64 a0_5, .int .i64 a0_6, .int .i64 a0_7, .int .i64 a0_8, .int .i64 a0_9, .int .i64 a0_10, .int .i64 a0_11]) (t := 33) ?hr ?_; (case hd => rfl); (case hg => rfl); (case hr => first | (go_simp; done) | (go_simp; rfl)); intro gb hg w1 hbox hb; have B1 := Aside0.mk (below_step HB.out hb); have BK := Aside0.mk hbox; clear hb hbox hg; obtain ⟨⟨hcz_0, hcz_1, hcz_2, hcz_3, hcz_4, hcz_5, hcz_6, hcz_7, hcz_8, hcz_9, hcz_10, hcz_11⟩, hfz_0, hfz_1, hfz_2, hfz_3, hfz_4, hfz_5, hfz_6, hfz_7, hfz_8, hfz_9, hfz_10, hfz_11⟩ := cells12 BK.out))
  refine wp_region_lit ?_
  simp only [List.append_eq, List.cons_append, List.nil_append]
  go_wp2_with (first
    | (go_at_call 25; (with_reducible refine (impl_okPrefix.calls a0_3 a0_4 _ _ E0.out).mono ?_); rintro e w2 ⟨rfl, hb⟩; have C0 := Aside0.mk (below_step B1.out hb); have K0 := Aside0.mk (blk_below BK.out hb); clear hb; obtain ⟨⟨hcz_0, hcz_1, hcz_2, hcz_3, hcz_4, hcz_5, hcz_6, hcz_7, hcz_8, hcz_9, hcz_10, hcz_11⟩, hfz_0, hfz_1, hfz_2, hfz_3, hfz_4, hfz_5, hfz_6, hfz_7, hfz_8, hfz_9, hfz_10, hfz_11⟩ := cells12 K0.out)
    | (go_at_call 25; (with_reducible refine (impl_okPrefix.calls a0_7 a0_8 _ _ E1.out).mono ?_); rintro e w2 ⟨rfl, hb⟩; have C1 := Aside0.mk (below_step C0.out hb); have K1 := Aside0.mk (blk_below K0.out hb); clear hb; obtain ⟨⟨hcz_0, hcz_1, hcz_2, hcz_3, hcz_4, hcz_5, hcz_6, hcz_7, hcz_8, hcz_9, hcz_10, hcz_11⟩, hfz_0, hfz_1, hfz_2, hfz_3, hfz_4, hfz_5, hfz_6, hfz_7, hfz_8, hfz_9, hfz_10, hfz_11⟩ := cells12 K1.out)
    | (fail))
  go_ret
  exact ⟨by first | rfl | (simp; done) | (simp [*]; done), by first | exact C1.out | (repeat (first | exact C1.out | apply pw_below_drewN | apply below_drew1))⟩
set_option maxHeartbeats 60000000 in
set_option maxRecDepth 100000 in
theorem impl_okRule.q17_call2 (a0_0 a0_1 a0_2 a0_3 a0_4 a0_5 a0_6 a0_7 a0_8 a0_9 a0_10 a0_11 : Int) (w : World) (c0 : decide (1 ≤ a0_0) = true) (c1 : decide (a0_0 ≤ 3) = true) (c2 : decide (1 ≤ a0_1) = true) (c3 : decide (a0_1 ≤ 3) = true) (c4 : decide (0 ≤ a0_11) = true) (c5 : decide (a0_11 ≤ 4) = true) (e0 : impl_okPrefix.f a0_3 a0_4 = some true) (e1 : impl_okPrefix.f a0_7 a0_8 = some true) (e2 : impl_isPort.f a0_5 = some false) :
    Calls Tryd.prog 14 #[.agg #[.int .i64 a0_0, .int .i64 a0_1, .int .i64 17, .int .i64 a0_3, .int .i64 a0_4, .int .i64 a0_5, .int .i64 a0_6, .int .i64 a0_7, .int .i64 a0_8, .int .i64 a0_9, .int .i64 a0_10, .int .i64 a0_11]] w fun e w' => e = .returned (.bool false) ∧ Below w.heap.size w w' := by
  have hu33 := Tryd.underlying33
  have hu31 := Tryd.underlying31
  have HB := Aside0.mk (Below.refl w.heap.size w)
  have E0 := Aside0.mk e0
  have E1 := Aside0.mk e1
  have E2 := Aside0.mk e2
  clear e0 e1 e2
  go_enter Tryd.func14, Tryd.ntmps14
  go_upto_region 1 with (first
    | ((with_reducible refine gate_dst (N := 1) rfl ?_); refine box_event ?hg (N := 1) ?hd (cs := #[.int .i64 a0_0, .int .i64 a0_1, .int .i64 17, .int .i64 a0_3, .int .i64 a0_4, .int .i64 a0_5, .int .i64 a0_6, .int .i64 a0_7, .int .i64 a0_8, .int .i64 a0_9, .int .i64 a0_10, .int .i64 a0_11]) (t := 33) ?hr ?_; (case hd => rfl); (case hg => rfl); (case hr => first | (go_simp; done) | (go_simp; rfl)); intro gb hg w1 hbox hb; have B1 := Aside0.mk (below_step HB.out hb); have BK := Aside0.mk hbox; clear hb hbox hg; obtain ⟨⟨hcz_0, hcz_1, hcz_2, hcz_3, hcz_4, hcz_5, hcz_6, hcz_7, hcz_8, hcz_9, hcz_10, hcz_11⟩, hfz_0, hfz_1, hfz_2, hfz_3, hfz_4, hfz_5, hfz_6, hfz_7, hfz_8, hfz_9, hfz_10, hfz_11⟩ := cells12 BK.out))
  refine wp_region_lit ?_
  simp only [List.append_eq, List.cons_append, List.nil_append]
  go_wp2_with (first
    | (go_at_call 25; (with_reducible refine (impl_okPrefix.calls a0_3 a0_4 _ _ E0.out).mono ?_); rintro e w2 ⟨rfl, hb⟩; have C0 := Aside0.mk (below_step B1.out hb); have K0 := Aside0.mk (blk_below BK.out hb); clear hb; obtain ⟨⟨hcz_0, hcz_1, hcz_2, hcz_3, hcz_4, hcz_5, hcz_6, hcz_7, hcz_8, hcz_9, hcz_10, hcz_11⟩, hfz_0, hfz_1, hfz_2, hfz_3, hfz_4, hfz_5, hfz_6, hfz_7, hfz_8, hfz_9, hfz_10, hfz_11⟩ := cells12 K0.out)
    | (go_at_call 25; (with_reducible refine (impl_okPrefix.calls a0_7 a0_8 _ _ E1.out).mono ?_); rintro e w2 ⟨rfl, hb⟩; have C1 := Aside0.mk (below_step C0.out hb); have K1 := Aside0.mk (blk_below K0.out hb); clear hb; obtain ⟨⟨hcz_0, hcz_1, hcz_2, hcz_3, hcz_4, hcz_5, hcz_6, hcz_7, hcz_8, hcz_9, hcz_10, hcz_11⟩, hfz_0, hfz_1, hfz_2, hfz_3, hfz_4, hfz_5, hfz_6, hfz_7, hfz_8, hfz_9, hfz_10, hfz_11⟩ := cells12 K1.out)
    | (go_at_call 26; (with_reducible refine (impl_isPort.calls a0_5 _ _ E2.out).mono ?_); rintro e w' ⟨rfl, ⟨nd, rfl⟩⟩)
    | (fail))
  go_ret
  exact ⟨by first | rfl | (simp; done) | (simp [*]; done), by first | exact C1.out | (repeat (first | exact C1.out | apply pw_below_drewN | apply below_drew1))⟩
set_option maxHeartbeats 60000000 in
set_option maxRecDepth 100000 in
theorem impl_okRule.q17_call3 (a0_0 a0_1 a0_2 a0_3 a0_4 a0_5 a0_6 a0_7 a0_8 a0_9 a0_10 a0_11 : Int) (w : World) (c0 : decide (1 ≤ a0_0) = true) (c1 : decide (a0_0 ≤ 3) = true) (c2 : decide (1 ≤ a0_1) = true) (c3 : decide (a0_1 ≤ 3) = true) (c4 : decide (0 ≤ a0_11) = true) (c5 : decide (a0_11 ≤ 4) = true) (e0 : impl_okPrefix.f a0_3 a0_4 = some true) (e1 : impl_okPrefix.f a0_7 a0_8 = some true) (e2 : impl_isPort.f a0_5 = some true) (e3 : impl_isPort.f a0_6 = some false) :
    Calls Tryd.prog 14 #[.agg #[.int .i64 a0_0, .int .i64 a0_1, .int .i64 17, .int .i64 a0_3, .int .i64 a0_4, .int .i64 a0_5, .int .i64 a0_6, .int .i64 a0_7, .int .i64 a0_8, .int .i64 a0_9, .int .i64 a0_10, .int .i64 a0_11]] w fun e w' => e = .returned (.bool false) ∧ Below w.heap.size w w' := by
  have hu33 := Tryd.underlying33
  have hu31 := Tryd.underlying31
  have HB := Aside0.mk (Below.refl w.heap.size w)
  have E0 := Aside0.mk e0
  have E1 := Aside0.mk e1
  have E2 := Aside0.mk e2
  have E3 := Aside0.mk e3
  clear e0 e1 e2 e3
  go_enter Tryd.func14, Tryd.ntmps14
  go_upto_region 1 with (first
    | ((with_reducible refine gate_dst (N := 1) rfl ?_); refine box_event ?hg (N := 1) ?hd (cs := #[.int .i64 a0_0, .int .i64 a0_1, .int .i64 17, .int .i64 a0_3, .int .i64 a0_4, .int .i64 a0_5, .int .i64 a0_6, .int .i64 a0_7, .int .i64 a0_8, .int .i64 a0_9, .int .i64 a0_10, .int .i64 a0_11]) (t := 33) ?hr ?_; (case hd => rfl); (case hg => rfl); (case hr => first | (go_simp; done) | (go_simp; rfl)); intro gb hg w1 hbox hb; have B1 := Aside0.mk (below_step HB.out hb); have BK := Aside0.mk hbox; clear hb hbox hg; obtain ⟨⟨hcz_0, hcz_1, hcz_2, hcz_3, hcz_4, hcz_5, hcz_6, hcz_7, hcz_8, hcz_9, hcz_10, hcz_11⟩, hfz_0, hfz_1, hfz_2, hfz_3, hfz_4, hfz_5, hfz_6, hfz_7, hfz_8, hfz_9, hfz_10, hfz_11⟩ := cells12 BK.out))
  refine wp_region_lit ?_
  simp only [List.append_eq, List.cons_append, List.nil_append]
  go_wp2_with (first
    | (go_at_call 25; (with_reducible refine (impl_okPrefix.calls a0_3 a0_4 _ _ E0.out).mono ?_); rintro e w2 ⟨rfl, hb⟩; have C0 := Aside0.mk (below_step B1.out hb); have K0 := Aside0.mk (blk_below BK.out hb); clear hb; obtain ⟨⟨hcz_0, hcz_1, hcz_2, hcz_3, hcz_4, hcz_5, hcz_6, hcz_7, hcz_8, hcz_9, hcz_10, hcz_11⟩, hfz_0, hfz_1, hfz_2, hfz_3, hfz_4, hfz_5, hfz_6, hfz_7, hfz_8, hfz_9, hfz_10, hfz_11⟩ := cells12 K0.out)
    | (go_at_call 25; (with_reducible refine (impl_okPrefix.calls a0_7 a0_8 _ _ E1.out).mono ?_); rintro e w2 ⟨rfl, hb⟩; have C1 := Aside0.mk (below_step C0.out hb); have K1 := Aside0.mk (blk_below K0.out hb); clear hb; obtain ⟨⟨hcz_0, hcz_1, hcz_2, hcz_3, hcz_4, hcz_5, hcz_6, hcz_7, hcz_8, hcz_9, hcz_10, hcz_11⟩, hfz_0, hfz_1, hfz_2, hfz_3, hfz_4, hfz_5, hfz_6, hfz_7, hfz_8, hfz_9, hfz_10, hfz_11⟩ := cells12 K1.out)
    | (go_at_call 26; (with_reducible refine (impl_isPort.calls a0_5 _ _ E2.out).mono ?_); rintro e w' ⟨rfl, ⟨nd, rfl⟩⟩)
    | (go_at_call 26; (with_reducible refine (impl_isPort.calls a0_6 _ _ E3.out).mono ?_); rintro e w' ⟨rfl, ⟨nd, rfl⟩⟩)
    | (fail))
  go_ret
  exact ⟨by first | rfl | (simp; done) | (simp [*]; done), by first | exact C1.out | (repeat (first | exact C1.out | apply pw_below_drewN | apply below_drew1))⟩
set_option maxHeartbeats 60000000 in
set_option maxRecDepth 100000 in
theorem impl_okRule.q17_call4 (a0_0 a0_1 a0_2 a0_3 a0_4 a0_5 a0_6 a0_7 a0_8 a0_9 a0_10 a0_11 : Int) (w : World) (c0 : decide (1 ≤ a0_0) = true) (c1 : decide (a0_0 ≤ 3) = true) (c2 : decide (1 ≤ a0_1) = true) (c3 : decide (a0_1 ≤ 3) = true) (c4 : decide (0 ≤ a0_11) = true) (c5 : decide (a0_11 ≤ 4) = true) (e0 : impl_okPrefix.f a0_3 a0_4 = some true) (e1 : impl_okPrefix.f a0_7 a0_8 = some true) (e2 : impl_isPort.f a0_5 = some true) (e3 : impl_isPort.f a0_6 = some true) (e4 : impl_isPort.f a0_9 = some false) :
    Calls Tryd.prog 14 #[.agg #[.int .i64 a0_0, .int .i64 a0_1, .int .i64 17, .int .i64 a0_3, .int .i64 a0_4, .int .i64 a0_5, .int .i64 a0_6, .int .i64 a0_7, .int .i64 a0_8, .int .i64 a0_9, .int .i64 a0_10, .int .i64 a0_11]] w fun e w' => e = .returned (.bool false) ∧ Below w.heap.size w w' := by
  have hu33 := Tryd.underlying33
  have hu31 := Tryd.underlying31
  have HB := Aside0.mk (Below.refl w.heap.size w)
  have E0 := Aside0.mk e0
  have E1 := Aside0.mk e1
  have E2 := Aside0.mk e2
  have E3 := Aside0.mk e3
  have E4 := Aside0.mk e4
  clear e0 e1 e2 e3 e4
  go_enter Tryd.func14, Tryd.ntmps14
  go_upto_region 1 with (first
    | ((with_reducible refine gate_dst (N := 1) rfl ?_); refine box_event ?hg (N := 1) ?hd (cs := #[.int .i64 a0_0, .int .i64 a0_1, .int .i64 17, .int .i64 a0_3, .int .i64 a0_4, .int .i64 a0_5, .int .i64 a0_6, .int .i64 a0_7, .int .i64 a0_8, .int .i64 a0_9, .int .i64 a0_10, .int .i64 a0_11]) (t := 33) ?hr ?_; (case hd => rfl); (case hg => rfl); (case hr => first | (go_simp; done) | (go_simp; rfl)); intro gb hg w1 hbox hb; have B1 := Aside0.mk (below_step HB.out hb); have BK := Aside0.mk hbox; clear hb hbox hg; obtain ⟨⟨hcz_0, hcz_1, hcz_2, hcz_3, hcz_4, hcz_5, hcz_6, hcz_7, hcz_8, hcz_9, hcz_10, hcz_11⟩, hfz_0, hfz_1, hfz_2, hfz_3, hfz_4, hfz_5, hfz_6, hfz_7, hfz_8, hfz_9, hfz_10, hfz_11⟩ := cells12 BK.out))
  refine wp_region_lit ?_
  simp only [List.append_eq, List.cons_append, List.nil_append]
  go_wp2_with (first
    | (go_at_call 25; (with_reducible refine (impl_okPrefix.calls a0_3 a0_4 _ _ E0.out).mono ?_); rintro e w2 ⟨rfl, hb⟩; have C0 := Aside0.mk (below_step B1.out hb); have K0 := Aside0.mk (blk_below BK.out hb); clear hb; obtain ⟨⟨hcz_0, hcz_1, hcz_2, hcz_3, hcz_4, hcz_5, hcz_6, hcz_7, hcz_8, hcz_9, hcz_10, hcz_11⟩, hfz_0, hfz_1, hfz_2, hfz_3, hfz_4, hfz_5, hfz_6, hfz_7, hfz_8, hfz_9, hfz_10, hfz_11⟩ := cells12 K0.out)
    | (go_at_call 25; (with_reducible refine (impl_okPrefix.calls a0_7 a0_8 _ _ E1.out).mono ?_); rintro e w2 ⟨rfl, hb⟩; have C1 := Aside0.mk (below_step C0.out hb); have K1 := Aside0.mk (blk_below K0.out hb); clear hb; obtain ⟨⟨hcz_0, hcz_1, hcz_2, hcz_3, hcz_4, hcz_5, hcz_6, hcz_7, hcz_8, hcz_9, hcz_10, hcz_11⟩, hfz_0, hfz_1, hfz_2, hfz_3, hfz_4, hfz_5, hfz_6, hfz_7, hfz_8, hfz_9, hfz_10, hfz_11⟩ := cells12 K1.out)
    | (go_at_call 26; (with_reducible refine (impl_isPort.calls a0_5 _ _ E2.out).mono ?_); rintro e w' ⟨rfl, ⟨nd, rfl⟩⟩)
    | (go_at_call 26; (with_reducible refine (impl_isPort.calls a0_6 _ _ E3.out).mono ?_); rintro e w' ⟨rfl, ⟨nd, rfl⟩⟩)
    | (go_at_call 26; (with_reducible refine (impl_isPort.calls a0_9 _ _ E4.out).mono ?_); rintro e w' ⟨rfl, ⟨nd, rfl⟩⟩)
    | (fail))
  go_ret
  exact ⟨by first | rfl | (simp; done) | (simp [*]; done), by first | exact C1.out | (repeat (first | exact C1.out | apply pw_below_drewN | apply below_drew1))⟩
set_option maxHeartbeats 60000000 in
set_option maxRecDepth 100000 in
theorem impl_okRule.q17_call5 (a0_0 a0_1 a0_2 a0_3 a0_4 a0_5 a0_6 a0_7 a0_8 a0_9 a0_10 a0_11 : Int) (w : World) (c0 : decide (1 ≤ a0_0) = true) (c1 : decide (a0_0 ≤ 3) = true) (c2 : decide (1 ≤ a0_1) = true) (c3 : decide (a0_1 ≤ 3) = true) (c4 : decide (0 ≤ a0_11) = true) (c5 : decide (a0_11 ≤ 4) = true) (e0 : impl_okPrefix.f a0_3 a0_4 = some true) (e1 : impl_okPrefix.f a0_7 a0_8 = some true) (e2 : impl_isPort.f a0_5 = some true) (e3 : impl_isPort.f a0_6 = some true) (e4 : impl_isPort.f a0_9 = some true) (e5 : impl_isPort.f a0_10 = some false) :
    Calls Tryd.prog 14 #[.agg #[.int .i64 a0_0, .int .i64 a0_1, .int .i64 17, .int .i64 a0_3, .int .i64 a0_4, .int .i64 a0_5, .int .i64 a0_6, .int .i64 a0_7, .int .i64 a0_8, .int .i64 a0_9, .int .i64 a0_10, .int .i64 a0_11]] w fun e w' => e = .returned (.bool false) ∧ Below w.heap.size w w' := by
  have hu33 := Tryd.underlying33
  have hu31 := Tryd.underlying31
  have HB := Aside0.mk (Below.refl w.heap.size w)
  have E0 := Aside0.mk e0
  have E1 := Aside0.mk e1
  have E2 := Aside0.mk e2
  have E3 := Aside0.mk e3
  have E4 := Aside0.mk e4
  have E5 := Aside0.mk e5
  clear e0 e1 e2 e3 e4 e5
  go_enter Tryd.func14, Tryd.ntmps14
  go_upto_region 1 with (first
    | ((with_reducible refine gate_dst (N := 1) rfl ?_); refine box_event ?hg (N := 1) ?hd (cs := #[.int .i64 a0_0, .int .i64 a0_1, .int .i64 17, .int .i64 a0_3, .int .i64 a0_4, .int .i64 a0_5, .int .i64 a0_6, .int .i64 a0_7, .int .i64 a0_8, .int .i64 a0_9, .int .i64 a0_10, .int .i64 a0_11]) (t := 33) ?hr ?_; (case hd => rfl); (case hg => rfl); (case hr => first | (go_simp; done) | (go_simp; rfl)); intro gb hg w1 hbox hb; have B1 := Aside0.mk (below_step HB.out hb); have BK := Aside0.mk hbox; clear hb hbox hg; obtain ⟨⟨hcz_0, hcz_1, hcz_2, hcz_3, hcz_4, hcz_5, hcz_6, hcz_7, hcz_8, hcz_9, hcz_10, hcz_11⟩, hfz_0, hfz_1, hfz_2, hfz_3, hfz_4, hfz_5, hfz_6, hfz_7, hfz_8, hfz_9, hfz_10, hfz_11⟩ := cells12 BK.out))
  refine wp_region_lit ?_
  simp only [List.append_eq, List.cons_append, List.nil_append]
  go_wp2_with (first
    | (go_at_call 25; (with_reducible refine (impl_okPrefix.calls a0_3 a0_4 _ _ E0.out).mono ?_); rintro e w2 ⟨rfl, hb⟩; have C0 := Aside0.mk (below_step B1.out hb); have K0 := Aside0.mk (blk_below BK.out hb); clear hb; obtain ⟨⟨hcz_0, hcz_1, hcz_2, hcz_3, hcz_4, hcz_5, hcz_6, hcz_7, hcz_8, hcz_9, hcz_10, hcz_11⟩, hfz_0, hfz_1, hfz_2, hfz_3, hfz_4, hfz_5, hfz_6, hfz_7, hfz_8, hfz_9, hfz_10, hfz_11⟩ := cells12 K0.out)
    | (go_at_call 25; (with_reducible refine (impl_okPrefix.calls a0_7 a0_8 _ _ E1.out).mono ?_); rintro e w2 ⟨rfl, hb⟩; have C1 := Aside0.mk (below_step C0.out hb); have K1 := Aside0.mk (blk_below K0.out hb); clear hb; obtain ⟨⟨hcz_0, hcz_1, hcz_2, hcz_3, hcz_4, hcz_5, hcz_6, hcz_7, hcz_8, hcz_9, hcz_10, hcz_11⟩, hfz_0, hfz_1, hfz_2, hfz_3, hfz_4, hfz_5, hfz_6, hfz_7, hfz_8, hfz_9, hfz_10, hfz_11⟩ := cells12 K1.out)
    | (go_at_call 26; (with_reducible refine (impl_isPort.calls a0_5 _ _ E2.out).mono ?_); rintro e w' ⟨rfl, ⟨nd, rfl⟩⟩)
    | (go_at_call 26; (with_reducible refine (impl_isPort.calls a0_6 _ _ E3.out).mono ?_); rintro e w' ⟨rfl, ⟨nd, rfl⟩⟩)
    | (go_at_call 26; (with_reducible refine (impl_isPort.calls a0_9 _ _ E4.out).mono ?_); rintro e w' ⟨rfl, ⟨nd, rfl⟩⟩)
    | (go_at_call 26; (with_reducible refine (impl_isPort.calls a0_10 _ _ E5.out).mono ?_); rintro e w' ⟨rfl, ⟨nd, rfl⟩⟩)
    | (fail))
  go_ret
  exact ⟨by first | rfl | (simp; done) | (simp [*]; done), by first | exact C1.out | (repeat (first | exact C1.out | apply pw_below_drewN | apply below_drew1))⟩
set_option maxHeartbeats 60000000 in
set_option maxRecDepth 100000 in
theorem impl_okRule.q17_cmp0 (a0_0 a0_1 a0_2 a0_3 a0_4 a0_5 a0_6 a0_7 a0_8 a0_9 a0_10 a0_11 : Int) (w : World) (c0 : decide (1 ≤ a0_0) = true) (c1 : decide (a0_0 ≤ 3) = true) (c2 : decide (1 ≤ a0_1) = true) (c3 : decide (a0_1 ≤ 3) = true) (c4 : decide (0 ≤ a0_11) = true) (c5 : decide (a0_11 ≤ 4) = true) (e0 : impl_okPrefix.f a0_3 a0_4 = some true) (e1 : impl_okPrefix.f a0_7 a0_8 = some true) (e2 : impl_isPort.f a0_5 = some true) (e3 : impl_isPort.f a0_6 = some true) (e4 : impl_isPort.f a0_9 = some true) (e5 : impl_isPort.f a0_10 = some true) (d0 : decide (a0_5 ≤ a0_6) = false) :
    Calls Tryd.prog 14 #[.agg #[.int .i64 a0_0, .int .i64 a0_1, .int .i64 17, .int .i64 a0_3, .int .i64 a0_4, .int .i64 a0_5, .int .i64 a0_6, .int .i64 a0_7, .int .i64 a0_8, .int .i64 a0_9, .int .i64 a0_10, .int .i64 a0_11]] w fun e w' => e = .returned (.bool false) ∧ Below w.heap.size w w' := by
  have hu33 := Tryd.underlying33
  have hu31 := Tryd.underlying31
  have HB := Aside0.mk (Below.refl w.heap.size w)
  have E0 := Aside0.mk e0
  have E1 := Aside0.mk e1
  have E2 := Aside0.mk e2
  have E3 := Aside0.mk e3
  have E4 := Aside0.mk e4
  have E5 := Aside0.mk e5
  clear e0 e1 e2 e3 e4 e5
  go_enter Tryd.func14, Tryd.ntmps14
  go_upto_region 1 with (first
    | ((with_reducible refine gate_dst (N := 1) rfl ?_); refine box_event ?hg (N := 1) ?hd (cs := #[.int .i64 a0_0, .int .i64 a0_1, .int .i64 17, .int .i64 a0_3, .int .i64 a0_4, .int .i64 a0_5, .int .i64 a0_6, .int .i64 a0_7, .int .i64 a0_8, .int .i64 a0_9, .int .i64 a0_10, .int .i64 a0_11]) (t := 33) ?hr ?_; (case hd => rfl); (case hg => rfl); (case hr => first | (go_simp; done) | (go_simp; rfl)); intro gb hg w1 hbox hb; have B1 := Aside0.mk (below_step HB.out hb); have BK := Aside0.mk hbox; clear hb hbox hg; obtain ⟨⟨hcz_0, hcz_1, hcz_2, hcz_3, hcz_4, hcz_5, hcz_6, hcz_7, hcz_8, hcz_9, hcz_10, hcz_11⟩, hfz_0, hfz_1, hfz_2, hfz_3, hfz_4, hfz_5, hfz_6, hfz_7, hfz_8, hfz_9, hfz_10, hfz_11⟩ := cells12 BK.out))
  refine wp_region_lit ?_
  simp only [List.append_eq, List.cons_append, List.nil_append]
  go_wp2_with (first
    | (go_at_call 25; (with_reducible refine (impl_okPrefix.calls a0_3 a0_4 _ _ E0.out).mono ?_); rintro e w2 ⟨rfl, hb⟩; have C0 := Aside0.mk (below_step B1.out hb); have K0 := Aside0.mk (blk_below BK.out hb); clear hb; obtain ⟨⟨hcz_0, hcz_1, hcz_2, hcz_3, hcz_4, hcz_5, hcz_6, hcz_7, hcz_8, hcz_9, hcz_10, hcz_11⟩, hfz_0, hfz_1, hfz_2, hfz_3, hfz_4, hfz_5, hfz_6, hfz_7, hfz_8, hfz_9, hfz_10, hfz_11⟩ := cells12 K0.out)
    | (go_at_call 25; (with_reducible refine (impl_okPrefix.calls a0_7 a0_8 _ _ E1.out).mono ?_); rintro e w2 ⟨rfl, hb⟩; have C1 := Aside0.mk (below_step C0.out hb); have K1 := Aside0.mk (blk_below K0.out hb); clear hb; obtain ⟨⟨hcz_0, hcz_1, hcz_2, hcz_3, hcz_4, hcz_5, hcz_6, hcz_7, hcz_8, hcz_9, hcz_10, hcz_11⟩, hfz_0, hfz_1, hfz_2, hfz_3, hfz_4, hfz_5, hfz_6, hfz_7, hfz_8, hfz_9, hfz_10, hfz_11⟩ := cells12 K1.out)
    | (go_at_call 26; (with_reducible refine (impl_isPort.calls a0_5 _ _ E2.out).mono ?_); rintro e w' ⟨rfl, ⟨nd, rfl⟩⟩)
    | (go_at_call 26; (with_reducible refine (impl_isPort.calls a0_6 _ _ E3.out).mono ?_); rintro e w' ⟨rfl, ⟨nd, rfl⟩⟩)
    | (go_at_call 26; (with_reducible refine (impl_isPort.calls a0_9 _ _ E4.out).mono ?_); rintro e w' ⟨rfl, ⟨nd, rfl⟩⟩)
    | (go_at_call 26; (with_reducible refine (impl_isPort.calls a0_10 _ _ E5.out).mono ?_); rintro e w' ⟨rfl, ⟨nd, rfl⟩⟩)
    | (fail))
  go_ret
  exact ⟨by first | rfl | (simp; done) | (simp [*]; done), by first | exact C1.out | (repeat (first | exact C1.out | apply pw_below_drewN | apply below_drew1))⟩
set_option maxHeartbeats 60000000 in
set_option maxRecDepth 100000 in
theorem impl_okRule.q17_cmp1 (a0_0 a0_1 a0_2 a0_3 a0_4 a0_5 a0_6 a0_7 a0_8 a0_9 a0_10 a0_11 : Int) (w : World) (c0 : decide (1 ≤ a0_0) = true) (c1 : decide (a0_0 ≤ 3) = true) (c2 : decide (1 ≤ a0_1) = true) (c3 : decide (a0_1 ≤ 3) = true) (c4 : decide (0 ≤ a0_11) = true) (c5 : decide (a0_11 ≤ 4) = true) (e0 : impl_okPrefix.f a0_3 a0_4 = some true) (e1 : impl_okPrefix.f a0_7 a0_8 = some true) (e2 : impl_isPort.f a0_5 = some true) (e3 : impl_isPort.f a0_6 = some true) (e4 : impl_isPort.f a0_9 = some true) (e5 : impl_isPort.f a0_10 = some true) (d0 : decide (a0_5 ≤ a0_6) = true) (d1 : decide (a0_9 ≤ a0_10) = false) :
    Calls Tryd.prog 14 #[.agg #[.int .i64 a0_0, .int .i64 a0_1, .int .i64 17, .int .i64 a0_3, .int .i64 a0_4, .int .i64 a0_5, .int .i64 a0_6, .int .i64 a0_7, .int .i64 a0_8, .int .i64 a0_9, .int .i64 a0_10, .int .i64 a0_11]] w fun e w' => e = .returned (.bool false) ∧ Below w.heap.size w w' := by
  have hu33 := Tryd.underlying33
  have hu31 := Tryd.underlying31
  have HB := Aside0.mk (Below.refl w.heap.size w)
  have E0 := Aside0.mk e0
  have E1 := Aside0.mk e1
  have E2 := Aside0.mk e2
  have E3 := Aside0.mk e3
  have E4 := Aside0.mk e4
  have E5 := Aside0.mk e5
  clear e0 e1 e2 e3 e4 e5
  go_enter Tryd.func14, Tryd.ntmps14
  go_upto_region 1 with (first
    | ((with_reducible refine gate_dst (N := 1) rfl ?_); refine box_event ?hg (N := 1) ?hd (cs := #[.int .i64 a0_0, .int .i64 a0_1, .int .i64 17, .int .i64 a0_3, .int .i64 a0_4, .int .i64 a0_5, .int .i64 a0_6, .int .i64 a0_7, .int .i64 a0_8, .int .i64 a0_9, .int .i64 a0_10, .int .i64 a0_11]) (t := 33) ?hr ?_; (case hd => rfl); (case hg => rfl); (case hr => first | (go_simp; done) | (go_simp; rfl)); intro gb hg w1 hbox hb; have B1 := Aside0.mk (below_step HB.out hb); have BK := Aside0.mk hbox; clear hb hbox hg; obtain ⟨⟨hcz_0, hcz_1, hcz_2, hcz_3, hcz_4, hcz_5, hcz_6, hcz_7, hcz_8, hcz_9, hcz_10, hcz_11⟩, hfz_0, hfz_1, hfz_2, hfz_3, hfz_4, hfz_5, hfz_6, hfz_7, hfz_8, hfz_9, hfz_10, hfz_11⟩ := cells12 BK.out))
  refine wp_region_lit ?_
  simp only [List.append_eq, List.cons_append, List.nil_append]
  go_wp2_with (first
    | (go_at_call 25; (with_reducible refine (impl_okPrefix.calls a0_3 a0_4 _ _ E0.out).mono ?_); rintro e w2 ⟨rfl, hb⟩; have C0 := Aside0.mk (below_step B1.out hb); have K0 := Aside0.mk (blk_below BK.out hb); clear hb; obtain ⟨⟨hcz_0, hcz_1, hcz_2, hcz_3, hcz_4, hcz_5, hcz_6, hcz_7, hcz_8, hcz_9, hcz_10, hcz_11⟩, hfz_0, hfz_1, hfz_2, hfz_3, hfz_4, hfz_5, hfz_6, hfz_7, hfz_8, hfz_9, hfz_10, hfz_11⟩ := cells12 K0.out)
    | (go_at_call 25; (with_reducible refine (impl_okPrefix.calls a0_7 a0_8 _ _ E1.out).mono ?_); rintro e w2 ⟨rfl, hb⟩; have C1 := Aside0.mk (below_step C0.out hb); have K1 := Aside0.mk (blk_below K0.out hb); clear hb; obtain ⟨⟨hcz_0, hcz_1, hcz_2, hcz_3, hcz_4, hcz_5, hcz_6, hcz_7, hcz_8, hcz_9, hcz_10, hcz_11⟩, hfz_0, hfz_1, hfz_2, hfz_3, hfz_4, hfz_5, hfz_6, hfz_7, hfz_8, hfz_9, hfz_10, hfz_11⟩ := cells12 K1.out)
    | (go_at_call 26; (with_reducible refine (impl_isPort.calls a0_5 _ _ E2.out).mono ?_); rintro e w' ⟨rfl, ⟨nd, rfl⟩⟩)
    | (go_at_call 26; (with_reducible refine (impl_isPort.calls a0_6 _ _ E3.out).mono ?_); rintro e w' ⟨rfl, ⟨nd, rfl⟩⟩)
    | (go_at_call 26; (with_reducible refine (impl_isPort.calls a0_9 _ _ E4.out).mono ?_); rintro e w' ⟨rfl, ⟨nd, rfl⟩⟩)
    | (go_at_call 26; (with_reducible refine (impl_isPort.calls a0_10 _ _ E5.out).mono ?_); rintro e w' ⟨rfl, ⟨nd, rfl⟩⟩)
    | (fail))
  go_ret
  exact ⟨by first | rfl | (simp; done) | (simp [*]; done), by first | exact C1.out | (repeat (first | exact C1.out | apply pw_below_drewN | apply below_drew1))⟩
set_option maxHeartbeats 60000000 in
set_option maxRecDepth 100000 in
theorem impl_okRule.q17_all (a0_0 a0_1 a0_2 a0_3 a0_4 a0_5 a0_6 a0_7 a0_8 a0_9 a0_10 a0_11 : Int) (w : World) (c0 : decide (1 ≤ a0_0) = true) (c1 : decide (a0_0 ≤ 3) = true) (c2 : decide (1 ≤ a0_1) = true) (c3 : decide (a0_1 ≤ 3) = true) (c4 : decide (0 ≤ a0_11) = true) (c5 : decide (a0_11 ≤ 4) = true) (e0 : impl_okPrefix.f a0_3 a0_4 = some true) (e1 : impl_okPrefix.f a0_7 a0_8 = some true) (e2 : impl_isPort.f a0_5 = some true) (e3 : impl_isPort.f a0_6 = some true) (e4 : impl_isPort.f a0_9 = some true) (e5 : impl_isPort.f a0_10 = some true) (d0 : decide (a0_5 ≤ a0_6) = true) (d1 : decide (a0_9 ≤ a0_10) = true) :
    Calls Tryd.prog 14 #[.agg #[.int .i64 a0_0, .int .i64 a0_1, .int .i64 17, .int .i64 a0_3, .int .i64 a0_4, .int .i64 a0_5, .int .i64 a0_6, .int .i64 a0_7, .int .i64 a0_8, .int .i64 a0_9, .int .i64 a0_10, .int .i64 a0_11]] w fun e w' => e = .returned (.bool true) ∧ Below w.heap.size w w' := by
  have hu33 := Tryd.underlying33
  have hu31 := Tryd.underlying31
  have HB := Aside0.mk (Below.refl w.heap.size w)
  have E0 := Aside0.mk e0
  have E1 := Aside0.mk e1
  have E2 := Aside0.mk e2
  have E3 := Aside0.mk e3
  have E4 := Aside0.mk e4
  have E5 := Aside0.mk e5
  clear e0 e1 e2 e3 e4 e5
  go_enter Tryd.func14, Tryd.ntmps14
  go_upto_region 1 with (first
    | ((with_reducible refine gate_dst (N := 1) rfl ?_); refine box_event ?hg (N := 1) ?hd (cs := #[.int .i64 a0_0, .int .i64 a0_1, .int .i64 17, .int .i64 a0_3, .int .i64 a0_4, .int .i64 a0_5, .int .i64 a0_6, .int .i64 a0_7, .int .i64 a0_8, .int .i64 a0_9, .int .i64 a0_10, .int .i64 a0_11]) (t := 33) ?hr ?_; (case hd => rfl); (case hg => rfl); (case hr => first | (go_simp; done) | (go_simp; rfl)); intro gb hg w1 hbox hb; have B1 := Aside0.mk (below_step HB.out hb); have BK := Aside0.mk hbox; clear hb hbox hg; obtain ⟨⟨hcz_0, hcz_1, hcz_2, hcz_3, hcz_4, hcz_5, hcz_6, hcz_7, hcz_8, hcz_9, hcz_10, hcz_11⟩, hfz_0, hfz_1, hfz_2, hfz_3, hfz_4, hfz_5, hfz_6, hfz_7, hfz_8, hfz_9, hfz_10, hfz_11⟩ := cells12 BK.out))
  refine wp_region_lit ?_
  simp only [List.append_eq, List.cons_append, List.nil_append]
  go_wp2_with (first
    | (go_at_call 25; (with_reducible refine (impl_okPrefix.calls a0_3 a0_4 _ _ E0.out).mono ?_); rintro e w2 ⟨rfl, hb⟩; have C0 := Aside0.mk (below_step B1.out hb); have K0 := Aside0.mk (blk_below BK.out hb); clear hb; obtain ⟨⟨hcz_0, hcz_1, hcz_2, hcz_3, hcz_4, hcz_5, hcz_6, hcz_7, hcz_8, hcz_9, hcz_10, hcz_11⟩, hfz_0, hfz_1, hfz_2, hfz_3, hfz_4, hfz_5, hfz_6, hfz_7, hfz_8, hfz_9, hfz_10, hfz_11⟩ := cells12 K0.out)
    | (go_at_call 25; (with_reducible refine (impl_okPrefix.calls a0_7 a0_8 _ _ E1.out).mono ?_); rintro e w2 ⟨rfl, hb⟩; have C1 := Aside0.mk (below_step C0.out hb); have K1 := Aside0.mk (blk_below K0.out hb); clear hb; obtain ⟨⟨hcz_0, hcz_1, hcz_2, hcz_3, hcz_4, hcz_5, hcz_6, hcz_7, hcz_8, hcz_9, hcz_10, hcz_11⟩, hfz_0, hfz_1, hfz_2, hfz_3, hfz_4, hfz_5, hfz_6, hfz_7, hfz_8, hfz_9, hfz_10, hfz_11⟩ := cells12 K1.out)
    | (go_at_call 26; (with_reducible refine (impl_isPort.calls a0_5 _ _ E2.out).mono ?_); rintro e w' ⟨rfl, ⟨nd, rfl⟩⟩)
    | (go_at_call 26; (with_reducible refine (impl_isPort.calls a0_6 _ _ E3.out).mono ?_); rintro e w' ⟨rfl, ⟨nd, rfl⟩⟩)
    | (go_at_call 26; (with_reducible refine (impl_isPort.calls a0_9 _ _ E4.out).mono ?_); rintro e w' ⟨rfl, ⟨nd, rfl⟩⟩)
    | (go_at_call 26; (with_reducible refine (impl_isPort.calls a0_10 _ _ E5.out).mono ?_); rintro e w' ⟨rfl, ⟨nd, rfl⟩⟩)
    | (fail))
  go_ret
  exact ⟨by first | rfl | (simp; done) | (simp [*]; done), by first | exact C1.out | (repeat (first | exact C1.out | apply pw_below_drewN | apply below_drew1))⟩
def okTail (p a b c d : Int) : Bool := if p = 6 ∨ p = 17 then true else if a = 0 then if b = 65535 then if c = 0 then d == 65535 else false else false else false
def impl_okRule.f (_ : Nat) (a0_0 : Int) (a0_1 : Int) (a0_2 : Int) (a0_3 : Int) (a0_4 : Int) (a0_5 : Int) (a0_6 : Int) (a0_7 : Int) (a0_8 : Int) (a0_9 : Int) (a0_10 : Int) (a0_11 : Int) : Option Bool := if (1 ≤ a0_0 ∧ a0_0 ≤ 3 ∧ 1 ≤ a0_1 ∧ a0_1 ≤ 3 ∧ 0 ≤ a0_11 ∧ a0_11 ≤ 4) ∧ (a0_2 = 0 ∨ a0_2 = 1 ∨ a0_2 = 6 ∨ a0_2 = 17) then ((impl_okPrefix.f a0_3 a0_4).bind fun t0 => if t0 = true then ((impl_okPrefix.f a0_7 a0_8).bind fun t1 => if t1 = true then ((impl_isPort.f a0_5).bind fun t2 => if t2 = true then ((impl_isPort.f a0_6).bind fun t3 => if t3 = true then ((impl_isPort.f a0_9).bind fun t4 => if t4 = true then ((impl_isPort.f a0_10).bind fun t5 => if t5 = true then (if a0_5 ≤ a0_6 then (if a0_9 ≤ a0_10 then some (okTail a0_2 a0_5 a0_6 a0_9 a0_10) else some false) else some false) else some false) else some false) else some false) else some false) else some false) else some false) else some false
theorem impl_okRule.mono : ∀ a0_0 a0_1 a0_2 a0_3 a0_4 a0_5 a0_6 a0_7 a0_8 a0_9 a0_10 a0_11 k, LeO (impl_okRule.f k a0_0 a0_1 a0_2 a0_3 a0_4 a0_5 a0_6 a0_7 a0_8 a0_9 a0_10 a0_11) (impl_okRule.f (k + 1) a0_0 a0_1 a0_2 a0_3 a0_4 a0_5 a0_6 a0_7 a0_8 a0_9 a0_10 a0_11) := fun _ _ _ _ _ _ _ _ _ _ _ _ _ => LeO.refl _
theorem impl_okRule.calls (k : Nat) (a0_0 : Int) (a0_1 : Int) (a0_2 : Int) (a0_3 : Int) (a0_4 : Int) (a0_5 : Int) (a0_6 : Int) (a0_7 : Int) (a0_8 : Int) (a0_9 : Int) (a0_10 : Int) (a0_11 : Int) (r : Bool) (w : World) (h : impl_okRule.f k a0_0 a0_1 a0_2 a0_3 a0_4 a0_5 a0_6 a0_7 a0_8 a0_9 a0_10 a0_11 = some r) :
    Calls Tryd.prog 14 #[.agg #[.int .i64 a0_0, .int .i64 a0_1, .int .i64 a0_2, .int .i64 a0_3, .int .i64 a0_4, .int .i64 a0_5, .int .i64 a0_6, .int .i64 a0_7, .int .i64 a0_8, .int .i64 a0_9, .int .i64 a0_10, .int .i64 a0_11]] w fun e w' => e = .returned (.bool r) ∧ Below w.heap.size w w' := by
  unfold impl_okRule.f at h
  by_cases hg : (1 ≤ a0_0 ∧ a0_0 ≤ 3 ∧ 1 ≤ a0_1 ∧ a0_1 ≤ 3 ∧ 0 ≤ a0_11 ∧ a0_11 ≤ 4) ∧ (a0_2 = 0 ∨ a0_2 = 1 ∨ a0_2 = 6 ∨ a0_2 = 17)
  · replace h := (if_pos hg).symm.trans h
    obtain ⟨⟨g0, g1, g2, g3, g4, g5⟩, hp⟩ := hg
    have c0 := decide_eq_true g0
    have c1 := decide_eq_true g1
    have c2 := decide_eq_true g2
    have c3 := decide_eq_true g3
    have c4 := decide_eq_true g4
    have c5 := decide_eq_true g5
    rcases hp with rfl | rfl | rfl | rfl
    · skip
      obtain ⟨t0, e0, h0⟩ := Option.bind_eq_some_iff.mp h
      cases t0 with
      | false =>
        obtain rfl : false = r := Option.some.inj h0
        exact impl_okRule.q0_call0 a0_0 a0_1 0 a0_3 a0_4 a0_5 a0_6 a0_7 a0_8 a0_9 a0_10 a0_11 w c0 c1 c2 c3 c4 c5 e0
      | true =>
        have z0 := (if_pos (c := true = true) rfl).symm.trans h0
        obtain ⟨t1, e1, h1⟩ := Option.bind_eq_some_iff.mp z0
        cases t1 with
        | false =>
          obtain rfl : false = r := Option.some.inj h1
          exact impl_okRule.q0_call1 a0_0 a0_1 0 a0_3 a0_4 a0_5 a0_6 a0_7 a0_8 a0_9 a0_10 a0_11 w c0 c1 c2 c3 c4 c5 e0 e1
        | true =>
          have z1 := (if_pos (c := true = true) rfl).symm.trans h1
          obtain ⟨t2, e2, h2⟩ := Option.bind_eq_some_iff.mp z1
          cases t2 with
          | false =>
            obtain rfl : false = r := Option.some.inj h2
            exact impl_okRule.q0_call2 a0_0 a0_1 0 a0_3 a0_4 a0_5 a0_6 a0_7 a0_8 a0_9 a0_10 a0_11 w c0 c1 c2 c3 c4 c5 e0 e1 e2
          | true =>
            have z2 := (if_pos (c := true = true) rfl).symm.trans h2
            obtain ⟨t3, e3, h3⟩ := Option.bind_eq_some_iff.mp z2
            cases t3 with
            | false =>
              obtain rfl : false = r := Option.some.inj h3
              exact impl_okRule.q0_call3 a0_0 a0_1 0 a0_3 a0_4 a0_5 a0_6 a0_7 a0_8 a0_9 a0_10 a0_11 w c0 c1 c2 c3 c4 c5 e0 e1 e2 e3
            | true =>
              have z3 := (if_pos (c := true = true) rfl).symm.trans h3
              obtain ⟨t4, e4, h4⟩ := Option.bind_eq_some_iff.mp z3
              cases t4 with
              | false =>
                obtain rfl : false = r := Option.some.inj h4
                exact impl_okRule.q0_call4 a0_0 a0_1 0 a0_3 a0_4 a0_5 a0_6 a0_7 a0_8 a0_9 a0_10 a0_11 w c0 c1 c2 c3 c4 c5 e0 e1 e2 e3 e4
              | true =>
                have z4 := (if_pos (c := true = true) rfl).symm.trans h4
                obtain ⟨t5, e5, h5⟩ := Option.bind_eq_some_iff.mp z4
                cases t5 with
                | false =>
                  obtain rfl : false = r := Option.some.inj h5
                  exact impl_okRule.q0_call5 a0_0 a0_1 0 a0_3 a0_4 a0_5 a0_6 a0_7 a0_8 a0_9 a0_10 a0_11 w c0 c1 c2 c3 c4 c5 e0 e1 e2 e3 e4 e5
                | true =>
                  have z5 := (if_pos (c := true = true) rfl).symm.trans h5
                  by_cases k0 : a0_5 ≤ a0_6
                  · have y0 := (if_pos k0).symm.trans z5
                    by_cases k1 : a0_9 ≤ a0_10
                    · have y1 := (if_pos k1).symm.trans y0
                      obtain rfl := Option.some.inj y1
                      by_cases n0 : a0_5 = 0
                      rotate_left
                      · have v : okTail 0 a0_5 a0_6 a0_9 a0_10 = false := by simp [okTail, n0]
                        rw [v]
                        exact impl_okRule.q0_end0 a0_0 a0_1 0 a0_3 a0_4 a0_5 a0_6 a0_7 a0_8 a0_9 a0_10 a0_11 w c0 c1 c2 c3 c4 c5 e0 e1 e2 e3 e4 e5 (decide_eq_true k0) (decide_eq_true k1) (beq_eq_false_iff_ne.mpr n0)
                      by_cases n1 : a0_6 = 65535
                      rotate_left
                      · have v : okTail 0 a0_5 a0_6 a0_9 a0_10 = false := by simp [okTail, n0, n1]
                        rw [v]
                        exact impl_okRule.q0_end1 a0_0 a0_1 0 a0_3 a0_4 a0_5 a0_6 a0_7 a0_8 a0_9 a0_10 a0_11 w c0 c1 c2 c3 c4 c5 e0 e1 e2 e3 e4 e5 (decide_eq_true k0) (decide_eq_true k1) (beq_iff_eq.mpr n0) (beq_eq_false_iff_ne.mpr n1)
                      by_cases n2 : a0_9 = 0
                      rotate_left
                      · have v : okTail 0 a0_5 a0_6 a0_9 a0_10 = false := by simp [okTail, n0, n1, n2]
                        rw [v]
                        exact impl_okRule.q0_end2 a0_0 a0_1 0 a0_3 a0_4 a0_5 a0_6 a0_7 a0_8 a0_9 a0_10 a0_11 w c0 c1 c2 c3 c4 c5 e0 e1 e2 e3 e4 e5 (decide_eq_true k0) (decide_eq_true k1) (beq_iff_eq.mpr n0) (beq_iff_eq.mpr n1) (beq_eq_false_iff_ne.mpr n2)
                      have v : okTail 0 a0_5 a0_6 a0_9 a0_10 = (a0_10 == 65535) := by simp [okTail, n0, n1, n2]
                      rw [v]
                      exact impl_okRule.q0_end3 a0_0 a0_1 0 a0_3 a0_4 a0_5 a0_6 a0_7 a0_8 a0_9 a0_10 a0_11 w c0 c1 c2 c3 c4 c5 e0 e1 e2 e3 e4 e5 (decide_eq_true k0) (decide_eq_true k1) (beq_iff_eq.mpr n0) (beq_iff_eq.mpr n1) (beq_iff_eq.mpr n2)
                    · obtain rfl := Option.some.inj ((if_neg k1).symm.trans y0)
                      exact impl_okRule.q0_cmp1 a0_0 a0_1 0 a0_3 a0_4 a0_5 a0_6 a0_7 a0_8 a0_9 a0_10 a0_11 w c0 c1 c2 c3 c4 c5 e0 e1 e2 e3 e4 e5 (decide_eq_true k0) (decide_eq_false k1)
                  · obtain rfl := Option.some.inj ((if_neg k0).symm.trans z5)
                    exact impl_okRule.q0_cmp0 a0_0 a0_1 0 a0_3 a0_4 a0_5 a0_6 a0_7 a0_8 a0_9 a0_10 a0_11 w c0 c1 c2 c3 c4 c5 e0 e1 e2 e3 e4 e5 (decide_eq_false k0)
    · skip
      obtain ⟨t0, e0, h0⟩ := Option.bind_eq_some_iff.mp h
      cases t0 with
      | false =>
        obtain rfl : false = r := Option.some.inj h0
        exact impl_okRule.q1_call0 a0_0 a0_1 1 a0_3 a0_4 a0_5 a0_6 a0_7 a0_8 a0_9 a0_10 a0_11 w c0 c1 c2 c3 c4 c5 e0
      | true =>
        have z0 := (if_pos (c := true = true) rfl).symm.trans h0
        obtain ⟨t1, e1, h1⟩ := Option.bind_eq_some_iff.mp z0
        cases t1 with
        | false =>
          obtain rfl : false = r := Option.some.inj h1
          exact impl_okRule.q1_call1 a0_0 a0_1 1 a0_3 a0_4 a0_5 a0_6 a0_7 a0_8 a0_9 a0_10 a0_11 w c0 c1 c2 c3 c4 c5 e0 e1
        | true =>
          have z1 := (if_pos (c := true = true) rfl).symm.trans h1
          obtain ⟨t2, e2, h2⟩ := Option.bind_eq_some_iff.mp z1
          cases t2 with
          | false =>
            obtain rfl : false = r := Option.some.inj h2
            exact impl_okRule.q1_call2 a0_0 a0_1 1 a0_3 a0_4 a0_5 a0_6 a0_7 a0_8 a0_9 a0_10 a0_11 w c0 c1 c2 c3 c4 c5 e0 e1 e2
          | true =>
            have z2 := (if_pos (c := true = true) rfl).symm.trans h2
            obtain ⟨t3, e3, h3⟩ := Option.bind_eq_some_iff.mp z2
            cases t3 with
            | false =>
              obtain rfl : false = r := Option.some.inj h3
              exact impl_okRule.q1_call3 a0_0 a0_1 1 a0_3 a0_4 a0_5 a0_6 a0_7 a0_8 a0_9 a0_10 a0_11 w c0 c1 c2 c3 c4 c5 e0 e1 e2 e3
            | true =>
              have z3 := (if_pos (c := true = true) rfl).symm.trans h3
              obtain ⟨t4, e4, h4⟩ := Option.bind_eq_some_iff.mp z3
              cases t4 with
              | false =>
                obtain rfl : false = r := Option.some.inj h4
                exact impl_okRule.q1_call4 a0_0 a0_1 1 a0_3 a0_4 a0_5 a0_6 a0_7 a0_8 a0_9 a0_10 a0_11 w c0 c1 c2 c3 c4 c5 e0 e1 e2 e3 e4
              | true =>
                have z4 := (if_pos (c := true = true) rfl).symm.trans h4
                obtain ⟨t5, e5, h5⟩ := Option.bind_eq_some_iff.mp z4
                cases t5 with
                | false =>
                  obtain rfl : false = r := Option.some.inj h5
                  exact impl_okRule.q1_call5 a0_0 a0_1 1 a0_3 a0_4 a0_5 a0_6 a0_7 a0_8 a0_9 a0_10 a0_11 w c0 c1 c2 c3 c4 c5 e0 e1 e2 e3 e4 e5
                | true =>
                  have z5 := (if_pos (c := true = true) rfl).symm.trans h5
                  by_cases k0 : a0_5 ≤ a0_6
                  · have y0 := (if_pos k0).symm.trans z5
                    by_cases k1 : a0_9 ≤ a0_10
                    · have y1 := (if_pos k1).symm.trans y0
                      obtain rfl := Option.some.inj y1
                      by_cases n0 : a0_5 = 0
                      rotate_left
                      · have v : okTail 1 a0_5 a0_6 a0_9 a0_10 = false := by simp [okTail, n0]
                        rw [v]
                        exact impl_okRule.q1_end0 a0_0 a0_1 1 a0_3 a0_4 a0_5 a0_6 a0_7 a0_8 a0_9 a0_10 a0_11 w c0 c1 c2 c3 c4 c5 e0 e1 e2 e3 e4 e5 (decide_eq_true k0) (decide_eq_true k1) (beq_eq_false_iff_ne.mpr n0)
                      by_cases n1 : a0_6 = 65535
                      rotate_left
                      · have v : okTail 1 a0_5 a0_6 a0_9 a0_10 = false := by simp [okTail, n0, n1]
                        rw [v]
                        exact impl_okRule.q1_end1 a0_0 a0_1 1 a0_3 a0_4 a0_5 a0_6 a0_7 a0_8 a0_9 a0_10 a0_11 w c0 c1 c2 c3 c4 c5 e0 e1 e2 e3 e4 e5 (decide_eq_true k0) (decide_eq_true k1) (beq_iff_eq.mpr n0) (beq_eq_false_iff_ne.mpr n1)
                      by_cases n2 : a0_9 = 0
                      rotate_left
                      · have v : okTail 1 a0_5 a0_6 a0_9 a0_10 = false := by simp [okTail, n0, n1, n2]
                        rw [v]
                        exact impl_okRule.q1_end2 a0_0 a0_1 1 a0_3 a0_4 a0_5 a0_6 a0_7 a0_8 a0_9 a0_10 a0_11 w c0 c1 c2 c3 c4 c5 e0 e1 e2 e3 e4 e5 (decide_eq_true k0) (decide_eq_true k1) (beq_iff_eq.mpr n0) (beq_iff_eq.mpr n1) (beq_eq_false_iff_ne.mpr n2)
                      have v : okTail 1 a0_5 a0_6 a0_9 a0_10 = (a0_10 == 65535) := by simp [okTail, n0, n1, n2]
                      rw [v]
                      exact impl_okRule.q1_end3 a0_0 a0_1 1 a0_3 a0_4 a0_5 a0_6 a0_7 a0_8 a0_9 a0_10 a0_11 w c0 c1 c2 c3 c4 c5 e0 e1 e2 e3 e4 e5 (decide_eq_true k0) (decide_eq_true k1) (beq_iff_eq.mpr n0) (beq_iff_eq.mpr n1) (beq_iff_eq.mpr n2)
                    · obtain rfl := Option.some.inj ((if_neg k1).symm.trans y0)
                      exact impl_okRule.q1_cmp1 a0_0 a0_1 1 a0_3 a0_4 a0_5 a0_6 a0_7 a0_8 a0_9 a0_10 a0_11 w c0 c1 c2 c3 c4 c5 e0 e1 e2 e3 e4 e5 (decide_eq_true k0) (decide_eq_false k1)
                  · obtain rfl := Option.some.inj ((if_neg k0).symm.trans z5)
                    exact impl_okRule.q1_cmp0 a0_0 a0_1 1 a0_3 a0_4 a0_5 a0_6 a0_7 a0_8 a0_9 a0_10 a0_11 w c0 c1 c2 c3 c4 c5 e0 e1 e2 e3 e4 e5 (decide_eq_false k0)
    · skip
      obtain ⟨t0, e0, h0⟩ := Option.bind_eq_some_iff.mp h
      cases t0 with
      | false =>
        obtain rfl : false = r := Option.some.inj h0
        exact impl_okRule.q6_call0 a0_0 a0_1 6 a0_3 a0_4 a0_5 a0_6 a0_7 a0_8 a0_9 a0_10 a0_11 w c0 c1 c2 c3 c4 c5 e0
      | true =>
        have z0 := (if_pos (c := true = true) rfl).symm.trans h0
        obtain ⟨t1, e1, h1⟩ := Option.bind_eq_some_iff.mp z0
        cases t1 with
        | false =>
          obtain rfl : false = r := Option.some.inj h1
          exact impl_okRule.q6_call1 a0_0 a0_1 6 a0_3 a0_4 a0_5 a0_6 a0_7 a0_8 a0_9 a0_10 a0_11 w c0 c1 c2 c3 c4 c5 e0 e1
        | true =>
          have z1 := (if_pos (c := true = true) rfl).symm.trans h1
          obtain ⟨t2, e2, h2⟩ := Option.bind_eq_some_iff.mp z1
          cases t2 with
          | false =>
            obtain rfl : false = r := Option.some.inj h2
            exact impl_okRule.q6_call2 a0_0 a0_1 6 a0_3 a0_4 a0_5 a0_6 a0_7 a0_8 a0_9 a0_10 a0_11 w c0 c1 c2 c3 c4 c5 e0 e1 e2
          | true =>
            have z2 := (if_pos (c := true = true) rfl).symm.trans h2
            obtain ⟨t3, e3, h3⟩ := Option.bind_eq_some_iff.mp z2
            cases t3 with
            | false =>
              obtain rfl : false = r := Option.some.inj h3
              exact impl_okRule.q6_call3 a0_0 a0_1 6 a0_3 a0_4 a0_5 a0_6 a0_7 a0_8 a0_9 a0_10 a0_11 w c0 c1 c2 c3 c4 c5 e0 e1 e2 e3
            | true =>
              have z3 := (if_pos (c := true = true) rfl).symm.trans h3
              obtain ⟨t4, e4, h4⟩ := Option.bind_eq_some_iff.mp z3
              cases t4 with
              | false =>
                obtain rfl : false = r := Option.some.inj h4
                exact impl_okRule.q6_call4 a0_0 a0_1 6 a0_3 a0_4 a0_5 a0_6 a0_7 a0_8 a0_9 a0_10 a0_11 w c0 c1 c2 c3 c4 c5 e0 e1 e2 e3 e4
              | true =>
                have z4 := (if_pos (c := true = true) rfl).symm.trans h4
                obtain ⟨t5, e5, h5⟩ := Option.bind_eq_some_iff.mp z4
                cases t5 with
                | false =>
                  obtain rfl : false = r := Option.some.inj h5
                  exact impl_okRule.q6_call5 a0_0 a0_1 6 a0_3 a0_4 a0_5 a0_6 a0_7 a0_8 a0_9 a0_10 a0_11 w c0 c1 c2 c3 c4 c5 e0 e1 e2 e3 e4 e5
                | true =>
                  have z5 := (if_pos (c := true = true) rfl).symm.trans h5
                  by_cases k0 : a0_5 ≤ a0_6
                  · have y0 := (if_pos k0).symm.trans z5
                    by_cases k1 : a0_9 ≤ a0_10
                    · have y1 := (if_pos k1).symm.trans y0
                      obtain rfl := Option.some.inj y1
                      exact impl_okRule.q6_all a0_0 a0_1 6 a0_3 a0_4 a0_5 a0_6 a0_7 a0_8 a0_9 a0_10 a0_11 w c0 c1 c2 c3 c4 c5 e0 e1 e2 e3 e4 e5 (decide_eq_true k0) (decide_eq_true k1)
                    · obtain rfl := Option.some.inj ((if_neg k1).symm.trans y0)
                      exact impl_okRule.q6_cmp1 a0_0 a0_1 6 a0_3 a0_4 a0_5 a0_6 a0_7 a0_8 a0_9 a0_10 a0_11 w c0 c1 c2 c3 c4 c5 e0 e1 e2 e3 e4 e5 (decide_eq_true k0) (decide_eq_false k1)
                  · obtain rfl := Option.some.inj ((if_neg k0).symm.trans z5)
                    exact impl_okRule.q6_cmp0 a0_0 a0_1 6 a0_3 a0_4 a0_5 a0_6 a0_7 a0_8 a0_9 a0_10 a0_11 w c0 c1 c2 c3 c4 c5 e0 e1 e2 e3 e4 e5 (decide_eq_false k0)
    · skip
      obtain ⟨t0, e0, h0⟩ := Option.bind_eq_some_iff.mp h
      cases t0 with
      | false =>
        obtain rfl : false = r := Option.some.inj h0
        exact impl_okRule.q17_call0 a0_0 a0_1 17 a0_3 a0_4 a0_5 a0_6 a0_7 a0_8 a0_9 a0_10 a0_11 w c0 c1 c2 c3 c4 c5 e0
      | true =>
        have z0 := (if_pos (c := true = true) rfl).symm.trans h0
        obtain ⟨t1, e1, h1⟩ := Option.bind_eq_some_iff.mp z0
        cases t1 with
        | false =>
          obtain rfl : false = r := Option.some.inj h1
          exact impl_okRule.q17_call1 a0_0 a0_1 17 a0_3 a0_4 a0_5 a0_6 a0_7 a0_8 a0_9 a0_10 a0_11 w c0 c1 c2 c3 c4 c5 e0 e1
        | true =>
          have z1 := (if_pos (c := true = true) rfl).symm.trans h1
          obtain ⟨t2, e2, h2⟩ := Option.bind_eq_some_iff.mp z1
          cases t2 with
          | false =>
            obtain rfl : false = r := Option.some.inj h2
            exact impl_okRule.q17_call2 a0_0 a0_1 17 a0_3 a0_4 a0_5 a0_6 a0_7 a0_8 a0_9 a0_10 a0_11 w c0 c1 c2 c3 c4 c5 e0 e1 e2
          | true =>
            have z2 := (if_pos (c := true = true) rfl).symm.trans h2
            obtain ⟨t3, e3, h3⟩ := Option.bind_eq_some_iff.mp z2
            cases t3 with
            | false =>
              obtain rfl : false = r := Option.some.inj h3
              exact impl_okRule.q17_call3 a0_0 a0_1 17 a0_3 a0_4 a0_5 a0_6 a0_7 a0_8 a0_9 a0_10 a0_11 w c0 c1 c2 c3 c4 c5 e0 e1 e2 e3
            | true =>
              have z3 := (if_pos (c := true = true) rfl).symm.trans h3
              obtain ⟨t4, e4, h4⟩ := Option.bind_eq_some_iff.mp z3
              cases t4 with
              | false =>
                obtain rfl : false = r := Option.some.inj h4
                exact impl_okRule.q17_call4 a0_0 a0_1 17 a0_3 a0_4 a0_5 a0_6 a0_7 a0_8 a0_9 a0_10 a0_11 w c0 c1 c2 c3 c4 c5 e0 e1 e2 e3 e4
              | true =>
                have z4 := (if_pos (c := true = true) rfl).symm.trans h4
                obtain ⟨t5, e5, h5⟩ := Option.bind_eq_some_iff.mp z4
                cases t5 with
                | false =>
                  obtain rfl : false = r := Option.some.inj h5
                  exact impl_okRule.q17_call5 a0_0 a0_1 17 a0_3 a0_4 a0_5 a0_6 a0_7 a0_8 a0_9 a0_10 a0_11 w c0 c1 c2 c3 c4 c5 e0 e1 e2 e3 e4 e5
                | true =>
                  have z5 := (if_pos (c := true = true) rfl).symm.trans h5
                  by_cases k0 : a0_5 ≤ a0_6
                  · have y0 := (if_pos k0).symm.trans z5
                    by_cases k1 : a0_9 ≤ a0_10
                    · have y1 := (if_pos k1).symm.trans y0
                      obtain rfl := Option.some.inj y1
                      exact impl_okRule.q17_all a0_0 a0_1 17 a0_3 a0_4 a0_5 a0_6 a0_7 a0_8 a0_9 a0_10 a0_11 w c0 c1 c2 c3 c4 c5 e0 e1 e2 e3 e4 e5 (decide_eq_true k0) (decide_eq_true k1)
                    · obtain rfl := Option.some.inj ((if_neg k1).symm.trans y0)
                      exact impl_okRule.q17_cmp1 a0_0 a0_1 17 a0_3 a0_4 a0_5 a0_6 a0_7 a0_8 a0_9 a0_10 a0_11 w c0 c1 c2 c3 c4 c5 e0 e1 e2 e3 e4 e5 (decide_eq_true k0) (decide_eq_false k1)
                  · obtain rfl := Option.some.inj ((if_neg k0).symm.trans z5)
                    exact impl_okRule.q17_cmp0 a0_0 a0_1 17 a0_3 a0_4 a0_5 a0_6 a0_7 a0_8 a0_9 a0_10 a0_11 w c0 c1 c2 c3 c4 c5 e0 e1 e2 e3 e4 e5 (decide_eq_false k0)
  · obtain rfl := Option.some.inj ((if_neg hg).symm.trans h)
    by_cases g0 : 1 ≤ a0_0
    rotate_left
    · exact impl_okRule.pre0 a0_0 a0_1 a0_2 a0_3 a0_4 a0_5 a0_6 a0_7 a0_8 a0_9 a0_10 a0_11 w (decide_eq_false g0)
    by_cases g1 : a0_0 ≤ 3
    rotate_left
    · exact impl_okRule.pre1 a0_0 a0_1 a0_2 a0_3 a0_4 a0_5 a0_6 a0_7 a0_8 a0_9 a0_10 a0_11 w (decide_eq_true g0) (decide_eq_false g1)
    by_cases g2 : 1 ≤ a0_1
    rotate_left
    · exact impl_okRule.pre2 a0_0 a0_1 a0_2 a0_3 a0_4 a0_5 a0_6 a0_7 a0_8 a0_9 a0_10 a0_11 w (decide_eq_true g0) (decide_eq_true g1) (decide_eq_false g2)
    by_cases g3 : a0_1 ≤ 3
    rotate_left
    · exact impl_okRule.pre3 a0_0 a0_1 a0_2 a0_3 a0_4 a0_5 a0_6 a0_7 a0_8 a0_9 a0_10 a0_11 w (decide_eq_true g0) (decide_eq_true g1) (decide_eq_true g2) (decide_eq_false g3)
    by_cases g4 : 0 ≤ a0_11
    rotate_left
    · exact impl_okRule.pre4 a0_0 a0_1 a0_2 a0_3 a0_4 a0_5 a0_6 a0_7 a0_8 a0_9 a0_10 a0_11 w (decide_eq_true g0) (decide_eq_true g1) (decide_eq_true g2) (decide_eq_true g3) (decide_eq_false g4)
    by_cases g5 : a0_11 ≤ 4
    rotate_left
    · exact impl_okRule.pre5 a0_0 a0_1 a0_2 a0_3 a0_4 a0_5 a0_6 a0_7 a0_8 a0_9 a0_10 a0_11 w (decide_eq_true g0) (decide_eq_true g1) (decide_eq_true g2) (decide_eq_true g3) (decide_eq_true g4) (decide_eq_false g5)
    have p0 : (a0_2 == 0) = false := beq_eq_false_iff_ne.mpr (fun z => hg ⟨⟨g0, g1, g2, g3, g4, g5⟩, by omega⟩)
    have p1 : (a0_2 == 1) = false := beq_eq_false_iff_ne.mpr (fun z => hg ⟨⟨g0, g1, g2, g3, g4, g5⟩, by omega⟩)
    have p6 : (a0_2 == 6) = false := beq_eq_false_iff_ne.mpr (fun z => hg ⟨⟨g0, g1, g2, g3, g4, g5⟩, by omega⟩)
    have p17 : (a0_2 == 17) = false := beq_eq_false_iff_ne.mpr (fun z => hg ⟨⟨g0, g1, g2, g3, g4, g5⟩, by omega⟩)
    exact impl_okRule.proto a0_0 a0_1 a0_2 a0_3 a0_4 a0_5 a0_6 a0_7 a0_8 a0_9 a0_10 a0_11 w (decide_eq_true g0) (decide_eq_true g1) (decide_eq_true g2) (decide_eq_true g3) (decide_eq_true g4) (decide_eq_true g5) p0 p1 p6 p17


end Go.Proofs.YtmgapmpmmkmdhaaDoor.PFnExactShowRules
