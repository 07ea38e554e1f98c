-- Written for this claim by a program of this session (wip/mkprint.py: the print, turned at a few places). Not trusted: Lean checks it.
import Derived.Test.YtnnplkhjmdbmbaaDoorPFnExactShowRoutesx0
import Derived.Test.YtnnplkhjmdbmbaaDoorPFnExactShowRoutesx2
namespace Go.Proofs.YtnnplkhjmdbmbaaDoor.PFnExactShowRoutes
open Go.RowKit Go.Proofs.YtnnplkhjmdbmbaaDoorW.PrintWords Go.Proofs.YtnnplkhjmdbmbaaDoorW.PrintLast Go.Proofs.YtnnplkhjmdbmbaaDoorW.PrintMore
attribute [local go_sem] max2_int min2_int max_two min_two max_three min_three max_four min_four   -- for this text's walks alone
set_option linter.unusedVariables false
set_option linter.unusedSimpArgs false

/-! ### impl_okPrefix: function 47 -/
def impl_okPrefix.f (a0_0 : Int) (a0_1 : Int) : Option (Bool) := (impl_isAddr.f a0_0).bind fun t161 => (if t161 = true then (if a0_1 ≥ 0 then (if a0_1 ≤ 32 then ((impl_mask.f a0_1).bind fun t162 => (some ((Go.bits .and .i64 a0_0 t162) == a0_0))) else (some false)) else (some false)) else (some false))
set_option maxHeartbeats 60000000 in
set_option maxRecDepth 100000 in
theorem impl_okPrefix.calls (a0_0 : Int) (a0_1 : Int) (r : Bool) (w : World) (h : impl_okPrefix.f a0_0 a0_1 = some r) :
    Calls Tryd.prog 47 #[.agg #[.int .i64 a0_0, .int .i64 a0_1]] w fun e w' => e = .returned (.bool r) ∧ Below w.heap.size w w' := by
  have hu36 := Tryd.underlying36
  have HB := Aside0.mk (Below.refl w.heap.size w)
  have H : ((impl_isAddr.f a0_0).bind fun t161 => (if t161 = true then (if a0_1 ≥ 0 then (if a0_1 ≤ 32 then ((impl_mask.f a0_1).bind fun t162 => (some ((Go.bits .and .i64 a0_0 t162) == a0_0))) else (some false)) else (some false)) else (some false))) = some r := h
  clear h
  replace H := Option.bind_eq_some_iff.mp H
  obtain ⟨t161, A20, H⟩ := H
  replace H : (if t161 = true then (if a0_1 ≥ 0 then (if a0_1 ≤ 32 then ((impl_mask.f a0_1).bind fun t162 => (some ((Go.bits .and .i64 a0_0 t162) == a0_0))) else (some false)) else (some false)) else (some false)) = some r := H
  have A2 := Aside0.mk A20
  clear A20
  by_cases c3 : t161 = true
  · subst c3
    have H1 : (if a0_1 ≥ 0 then (if a0_1 ≤ 32 then ((impl_mask.f a0_1).bind fun t162 => (some ((Go.bits .and .i64 a0_0 t162) == a0_0))) else (some false)) else (some false)) = some r := by rw [if_pos rfl] at H; exact H
    clear H
    have H := H1
    clear H1
    by_cases c4 : a0_1 ≥ 0
    · rw [if_pos c4] at H
      have c4b0 : decide (0 ≤ a0_1) = true := decide_eq_true c4
      clear c4
      by_cases c5 : a0_1 ≤ 32
      · rw [if_pos c5] at H
        have c5b0 : decide (a0_1 ≤ 32) = true := decide_eq_true c5
        clear c5
        replace H := Option.bind_eq_some_iff.mp H
        obtain ⟨t162, A60, H⟩ := H
        replace H : (some ((Go.bits .and .i64 a0_0 t162) == a0_0)) = some r := H
        have A6 := Aside0.mk A60
        clear A60
        obtain rfl := Option.some.inj H
        go_enter Tryd.func47, Tryd.ntmps47
        go_wp2_with (first | ((with_reducible refine gate_dst (N := 1) rfl ?_); refine box_event ?hg (N := 1) ?hd (cs := #[.int .i64 a0_0, .int .i64 a0_1]) (t := 36) ?hr ?_; (case hd => rfl); (case hg => rfl); (case hr => first | (go_simp; done) | (go_simp; rfl)); intro gb160 hg w1001 hbox hb; have n0_ := Aside0.mk (below_step wB hb); have n1_ := Aside0.mk (hbox); have n2_ := Aside0.mk ((by rw [hg]; exact (below_size wB) : w.heap.size ≤ gb160)); have n3_ := Aside0.mk ((by rw [hg]; exact (below_size wB) : w.heap.size ≤ gb160)); clear HB; have HB := n0_; have BK160 := n1_; have GW160 := n2_; have GE160 := n3_; clear n0_ n1_ n2_ n3_; clear hb hbox hg; obtain ⟨⟨hcz1002_0, hcz1002_1⟩, hfz1002_0, hfz1002_1⟩ := cells2 BK160.out) | (go_at_call 33; (with_reducible refine (impl_isAddr.calls a0_0 true _ A2.out).mono ?_); rintro e w' ⟨rfl, ⟨nd, rfl⟩⟩; (try first | exact ⟨rfl, _, World.drewN_drewN _ _ _⟩ | exact ⟨rfl, _, Eq.trans (World.drewN_drewN _ _ _) (congrArg (World.drewN _) (Nat.add_assoc _ _ _))⟩)) | (go_at_call 68; (with_reducible refine (impl_mask.calls a0_1 t162 _ A6.out).mono ?_); rintro e w' ⟨rfl, ⟨nd, rfl⟩⟩; (try first | exact ⟨rfl, _, World.drewN_drewN _ _ _⟩ | exact ⟨rfl, _, Eq.trans (World.drewN_drewN _ _ _) (congrArg (World.drewN _) (Nat.add_assoc _ _ _))⟩)))
        repeat (go_quiet (first | ((with_reducible refine gate_dst (N := 1) rfl ?_); refine box_event ?hg (N := 1) ?hd (cs := #[.int .i64 a0_0, .int .i64 a0_1]) (t := 36) ?hr ?_; (case hd => rfl); (case hg => rfl); (case hr => first | (go_simp; done) | (go_simp; rfl)); intro gb160 hg w1001 hbox hb; have n0_ := Aside0.mk (below_step wB hb); have n1_ := Aside0.mk (hbox); have n2_ := Aside0.mk ((by rw [hg]; exact (below_size wB) : w.heap.size ≤ gb160)); have n3_ := Aside0.mk ((by rw [hg]; exact (below_size wB) : w.heap.size ≤ gb160)); clear HB; have HB := n0_; have BK160 := n1_; have GW160 := n2_; have GE160 := n3_; clear n0_ n1_ n2_ n3_; clear hb hbox hg; obtain ⟨⟨hcz1002_0, hcz1002_1⟩, hfz1002_0, hfz1002_1⟩ := cells2 BK160.out) | (go_at_call 33; (with_reducible refine (impl_isAddr.calls a0_0 true _ A2.out).mono ?_); rintro e w' ⟨rfl, ⟨nd, rfl⟩⟩; (try first | exact ⟨rfl, _, World.drewN_drewN _ _ _⟩ | exact ⟨rfl, _, Eq.trans (World.drewN_drewN _ _ _) (congrArg (World.drewN _) (Nat.add_assoc _ _ _))⟩)) | (go_at_call 68; (with_reducible refine (impl_mask.calls a0_1 t162 _ A6.out).mono ?_); rintro e w' ⟨rfl, ⟨nd, rfl⟩⟩; (try first | exact ⟨rfl, _, World.drewN_drewN _ _ _⟩ | exact ⟨rfl, _, Eq.trans (World.drewN_drewN _ _ _) (congrArg (World.drewN _) (Nat.add_assoc _ _ _))⟩))); try go_wp2_with (first | ((with_reducible refine gate_dst (N := 1) rfl ?_); refine box_event ?hg (N := 1) ?hd (cs := #[.int .i64 a0_0, .int .i64 a0_1]) (t := 36) ?hr ?_; (case hd => rfl); (case hg => rfl); (case hr => first | (go_simp; done) | (go_simp; rfl)); intro gb160 hg w1001 hbox hb; have n0_ := Aside0.mk (below_step wB hb); have n1_ := Aside0.mk (hbox); have n2_ := Aside0.mk ((by rw [hg]; exact (below_size wB) : w.heap.size ≤ gb160)); have n3_ := Aside0.mk ((by rw [hg]; exact (below_size wB) : w.heap.size ≤ gb160)); clear HB; have HB := n0_; have BK160 := n1_; have GW160 := n2_; have GE160 := n3_; clear n0_ n1_ n2_ n3_; clear hb hbox hg; obtain ⟨⟨hcz1002_0, hcz1002_1⟩, hfz1002_0, hfz1002_1⟩ := cells2 BK160.out) | (go_at_call 33; (with_reducible refine (impl_isAddr.calls a0_0 true _ A2.out).mono ?_); rintro e w' ⟨rfl, ⟨nd, rfl⟩⟩; (try first | exact ⟨rfl, _, World.drewN_drewN _ _ _⟩ | exact ⟨rfl, _, Eq.trans (World.drewN_drewN _ _ _) (congrArg (World.drewN _) (Nat.add_assoc _ _ _))⟩)) | (go_at_call 68; (with_reducible refine (impl_mask.calls a0_1 t162 _ A6.out).mono ?_); rintro e w' ⟨rfl, ⟨nd, rfl⟩⟩; (try first | exact ⟨rfl, _, World.drewN_drewN _ _ _⟩ | exact ⟨rfl, _, Eq.trans (World.drewN_drewN _ _ _) (congrArg (World.drewN _) (Nat.add_assoc _ _ _))⟩))))
        go_ret
        exact ⟨by first | rfl | (simp [errW_none, errW_some] <;> rfl) | (simp [*, errW_none, errW_some] <;> rfl), wB⟩
      · rw [if_neg c5] at H
        have c5b0 : decide (a0_1 ≤ 32) = false := decide_eq_false c5
        clear c5
        obtain rfl := Option.some.inj H
        go_enter Tryd.func47, Tryd.ntmps47
        go_wp2_with (first | ((with_reducible refine gate_dst (N := 1) rfl ?_); refine box_event ?hg (N := 1) ?hd (cs := #[.int .i64 a0_0, .int .i64 a0_1]) (t := 36) ?hr ?_; (case hd => rfl); (case hg => rfl); (case hr => first | (go_simp; done) | (go_simp; rfl)); intro gb160 hg w1001 hbox hb; have n0_ := Aside0.mk (below_step wB hb); have n1_ := Aside0.mk (hbox); have n2_ := Aside0.mk ((by rw [hg]; exact (below_size wB) : w.heap.size ≤ gb160)); have n3_ := Aside0.mk ((by rw [hg]; exact (below_size wB) : w.heap.size ≤ gb160)); clear HB; have HB := n0_; have BK160 := n1_; have GW160 := n2_; have GE160 := n3_; clear n0_ n1_ n2_ n3_; clear hb hbox hg; obtain ⟨⟨hcz1002_0, hcz1002_1⟩, hfz1002_0, hfz1002_1⟩ := cells2 BK160.out) | (go_at_call 33; (with_reducible refine (impl_isAddr.calls a0_0 true _ A2.out).mono ?_); rintro e w' ⟨rfl, ⟨nd, rfl⟩⟩; (try first | exact ⟨rfl, _, World.drewN_drewN _ _ _⟩ | exact ⟨rfl, _, Eq.trans (World.drewN_drewN _ _ _) (congrArg (World.drewN _) (Nat.add_assoc _ _ _))⟩)))
        repeat (go_quiet (first | ((with_reducible refine gate_dst (N := 1) rfl ?_); refine box_event ?hg (N := 1) ?hd (cs := #[.int .i64 a0_0, .int .i64 a0_1]) (t := 36) ?hr ?_; (case hd => rfl); (case hg => rfl); (case hr => first | (go_simp; done) | (go_simp; rfl)); intro gb160 hg w1001 hbox hb; have n0_ := Aside0.mk (below_step wB hb); have n1_ := Aside0.mk (hbox); have n2_ := Aside0.mk ((by rw [hg]; exact (below_size wB) : w.heap.size ≤ gb160)); have n3_ := Aside0.mk ((by rw [hg]; exact (below_size wB) : w.heap.size ≤ gb160)); clear HB; have HB := n0_; have BK160 := n1_; have GW160 := n2_; have GE160 := n3_; clear n0_ n1_ n2_ n3_; clear hb hbox hg; obtain ⟨⟨hcz1002_0, hcz1002_1⟩, hfz1002_0, hfz1002_1⟩ := cells2 BK160.out) | (go_at_call 33; (with_reducible refine (impl_isAddr.calls a0_0 true _ A2.out).mono ?_); rintro e w' ⟨rfl, ⟨nd, rfl⟩⟩; (try first | exact ⟨rfl, _, World.drewN_drewN _ _ _⟩ | exact ⟨rfl, _, Eq.trans (World.drewN_drewN _ _ _) (congrArg (World.drewN _) (Nat.add_assoc _ _ _))⟩))); try go_wp2_with (first | ((with_reducible refine gate_dst (N := 1) rfl ?_); refine box_event ?hg (N := 1) ?hd (cs := #[.int .i64 a0_0, .int .i64 a0_1]) (t := 36) ?hr ?_; (case hd => rfl); (case hg => rfl); (case hr => first | (go_simp; done) | (go_simp; rfl)); intro gb160 hg w1001 hbox hb; have n0_ := Aside0.mk (below_step wB hb); have n1_ := Aside0.mk (hbox); have n2_ := Aside0.mk ((by rw [hg]; exact (below_size wB) : w.heap.size ≤ gb160)); have n3_ := Aside0.mk ((by rw [hg]; exact (below_size wB) : w.heap.size ≤ gb160)); clear HB; have HB := n0_; have BK160 := n1_; have GW160 := n2_; have GE160 := n3_; clear n0_ n1_ n2_ n3_; clear hb hbox hg; obtain ⟨⟨hcz1002_0, hcz1002_1⟩, hfz1002_0, hfz1002_1⟩ := cells2 BK160.out) | (go_at_call 33; (with_reducible refine (impl_isAddr.calls a0_0 true _ A2.out).mono ?_); rintro e w' ⟨rfl, ⟨nd, rfl⟩⟩; (try first | exact ⟨rfl, _, World.drewN_drewN _ _ _⟩ | exact ⟨rfl, _, Eq.trans (World.drewN_drewN _ _ _) (congrArg (World.drewN _) (Nat.add_assoc _ _ _))⟩))))
        go_ret
        exact ⟨by first | rfl | (simp [errW_none, errW_some] <;> rfl) | (simp [*, errW_none, errW_some] <;> rfl), wB⟩
    · rw [if_neg c4] at H
      have c4b0 : decide (0 ≤ a0_1) = false := decide_eq_false c4
      clear c4
      obtain rfl := Option.some.inj H
      go_enter Tryd.func47, Tryd.ntmps47
      go_wp2_with (first | ((with_reducible refine gate_dst (N := 1) rfl ?_); refine box_event ?hg (N := 1) ?hd (cs := #[.int .i64 a0_0, .int .i64 a0_1]) (t := 36) ?hr ?_; (case hd => rfl); (case hg => rfl); (case hr => first | (go_simp; done) | (go_simp; rfl)); intro gb160 hg w1001 hbox hb; have n0_ := Aside0.mk (below_step wB hb); have n1_ := Aside0.mk (hbox); have n2_ := Aside0.mk ((by rw [hg]; exact (below_size wB) : w.heap.size ≤ gb160)); have n3_ := Aside0.mk ((by rw [hg]; exact (below_size wB) : w.heap.size ≤ gb160)); clear HB; have HB := n0_; have BK160 := n1_; have GW160 := n2_; have GE160 := n3_; clear n0_ n1_ n2_ n3_; clear hb hbox hg; obtain ⟨⟨hcz1002_0, hcz1002_1⟩, hfz1002_0, hfz1002_1⟩ := cells2 BK160.out) | (go_at_call 33; (with_reducible refine (impl_isAddr.calls a0_0 true _ A2.out).mono ?_); rintro e w' ⟨rfl, ⟨nd, rfl⟩⟩; (try first | exact ⟨rfl, _, World.drewN_drewN _ _ _⟩ | exact ⟨rfl, _, Eq.trans (World.drewN_drewN _ _ _) (congrArg (World.drewN _) (Nat.add_assoc _ _ _))⟩)))
      repeat (go_quiet (first | ((with_reducible refine gate_dst (N := 1) rfl ?_); refine box_event ?hg (N := 1) ?hd (cs := #[.int .i64 a0_0, .int .i64 a0_1]) (t := 36) ?hr ?_; (case hd => rfl); (case hg => rfl); (case hr => first | (go_simp; done) | (go_simp; rfl)); intro gb160 hg w1001 hbox hb; have n0_ := Aside0.mk (below_step wB hb); have n1_ := Aside0.mk (hbox); have n2_ := Aside0.mk ((by rw [hg]; exact (below_size wB) : w.heap.size ≤ gb160)); have n3_ := Aside0.mk ((by rw [hg]; exact (below_size wB) : w.heap.size ≤ gb160)); clear HB; have HB := n0_; have BK160 := n1_; have GW160 := n2_; have GE160 := n3_; clear n0_ n1_ n2_ n3_; clear hb hbox hg; obtain ⟨⟨hcz1002_0, hcz1002_1⟩, hfz1002_0, hfz1002_1⟩ := cells2 BK160.out) | (go_at_call 33; (with_reducible refine (impl_isAddr.calls a0_0 true _ A2.out).mono ?_); rintro e w' ⟨rfl, ⟨nd, rfl⟩⟩; (try first | exact ⟨rfl, _, World.drewN_drewN _ _ _⟩ | exact ⟨rfl, _, Eq.trans (World.drewN_drewN _ _ _) (congrArg (World.drewN _) (Nat.add_assoc _ _ _))⟩))); try go_wp2_with (first | ((with_reducible refine gate_dst (N := 1) rfl ?_); refine box_event ?hg (N := 1) ?hd (cs := #[.int .i64 a0_0, .int .i64 a0_1]) (t := 36) ?hr ?_; (case hd => rfl); (case hg => rfl); (case hr => first | (go_simp; done) | (go_simp; rfl)); intro gb160 hg w1001 hbox hb; have n0_ := Aside0.mk (below_step wB hb); have n1_ := Aside0.mk (hbox); have n2_ := Aside0.mk ((by rw [hg]; exact (below_size wB) : w.heap.size ≤ gb160)); have n3_ := Aside0.mk ((by rw [hg]; exact (below_size wB) : w.heap.size ≤ gb160)); clear HB; have HB := n0_; have BK160 := n1_; have GW160 := n2_; have GE160 := n3_; clear n0_ n1_ n2_ n3_; clear hb hbox hg; obtain ⟨⟨hcz1002_0, hcz1002_1⟩, hfz1002_0, hfz1002_1⟩ := cells2 BK160.out) | (go_at_call 33; (with_reducible refine (impl_isAddr.calls a0_0 true _ A2.out).mono ?_); rintro e w' ⟨rfl, ⟨nd, rfl⟩⟩; (try first | exact ⟨rfl, _, World.drewN_drewN _ _ _⟩ | exact ⟨rfl, _, Eq.trans (World.drewN_drewN _ _ _) (congrArg (World.drewN _) (Nat.add_assoc _ _ _))⟩))))
      go_ret
      exact ⟨by first | rfl | (simp [errW_none, errW_some] <;> rfl) | (simp [*, errW_none, errW_some] <;> rfl), wB⟩
  · replace c3 := Bool.eq_false_iff.mpr c3
    subst c3
    have H1 : (some false) = some r := by rw [if_neg (show ¬ (false = true) by decide)] at H; exact H
    clear H
    have H := H1
    clear H1
    obtain rfl := Option.some.inj H
    go_enter Tryd.func47, Tryd.ntmps47
    go_wp2_with (first | ((with_reducible refine gate_dst (N := 1) rfl ?_); refine box_event ?hg (N := 1) ?hd (cs := #[.int .i64 a0_0, .int .i64 a0_1]) (t := 36) ?hr ?_; (case hd => rfl); (case hg => rfl); (case hr => first | (go_simp; done) | (go_simp; rfl)); intro gb160 hg w1001 hbox hb; have n0_ := Aside0.mk (below_step wB hb); have n1_ := Aside0.mk (hbox); have n2_ := Aside0.mk ((by rw [hg]; exact (below_size wB) : w.heap.size ≤ gb160)); have n3_ := Aside0.mk ((by rw [hg]; exact (below_size wB) : w.heap.size ≤ gb160)); clear HB; have HB := n0_; have BK160 := n1_; have GW160 := n2_; have GE160 := n3_; clear n0_ n1_ n2_ n3_; clear hb hbox hg; obtain ⟨⟨hcz1002_0, hcz1002_1⟩, hfz1002_0, hfz1002_1⟩ := cells2 BK160.out) | (go_at_call 33; (with_reducible refine (impl_isAddr.calls a0_0 false _ A2.out).mono ?_); rintro e w' ⟨rfl, ⟨nd, rfl⟩⟩; (try first | exact ⟨rfl, _, World.drewN_drewN _ _ _⟩ | exact ⟨rfl, _, Eq.trans (World.drewN_drewN _ _ _) (congrArg (World.drewN _) (Nat.add_assoc _ _ _))⟩)))
    repeat (go_quiet (first | ((with_reducible refine gate_dst (N := 1) rfl ?_); refine box_event ?hg (N := 1) ?hd (cs := #[.int .i64 a0_0, .int .i64 a0_1]) (t := 36) ?hr ?_; (case hd => rfl); (case hg => rfl); (case hr => first | (go_simp; done) | (go_simp; rfl)); intro gb160 hg w1001 hbox hb; have n0_ := Aside0.mk (below_step wB hb); have n1_ := Aside0.mk (hbox); have n2_ := Aside0.mk ((by rw [hg]; exact (below_size wB) : w.heap.size ≤ gb160)); have n3_ := Aside0.mk ((by rw [hg]; exact (below_size wB) : w.heap.size ≤ gb160)); clear HB; have HB := n0_; have BK160 := n1_; have GW160 := n2_; have GE160 := n3_; clear n0_ n1_ n2_ n3_; clear hb hbox hg; obtain ⟨⟨hcz1002_0, hcz1002_1⟩, hfz1002_0, hfz1002_1⟩ := cells2 BK160.out) | (go_at_call 33; (with_reducible refine (impl_isAddr.calls a0_0 false _ A2.out).mono ?_); rintro e w' ⟨rfl, ⟨nd, rfl⟩⟩; (try first | exact ⟨rfl, _, World.drewN_drewN _ _ _⟩ | exact ⟨rfl, _, Eq.trans (World.drewN_drewN _ _ _) (congrArg (World.drewN _) (Nat.add_assoc _ _ _))⟩))); try go_wp2_with (first | ((with_reducible refine gate_dst (N := 1) rfl ?_); refine box_event ?hg (N := 1) ?hd (cs := #[.int .i64 a0_0, .int .i64 a0_1]) (t := 36) ?hr ?_; (case hd => rfl); (case hg => rfl); (case hr => first | (go_simp; done) | (go_simp; rfl)); intro gb160 hg w1001 hbox hb; have n0_ := Aside0.mk (below_step wB hb); have n1_ := Aside0.mk (hbox); have n2_ := Aside0.mk ((by rw [hg]; exact (below_size wB) : w.heap.size ≤ gb160)); have n3_ := Aside0.mk ((by rw [hg]; exact (below_size wB) : w.heap.size ≤ gb160)); clear HB; have HB := n0_; have BK160 := n1_; have GW160 := n2_; have GE160 := n3_; clear n0_ n1_ n2_ n3_; clear hb hbox hg; obtain ⟨⟨hcz1002_0, hcz1002_1⟩, hfz1002_0, hfz1002_1⟩ := cells2 BK160.out) | (go_at_call 33; (with_reducible refine (impl_isAddr.calls a0_0 false _ A2.out).mono ?_); rintro e w' ⟨rfl, ⟨nd, rfl⟩⟩; (try first | exact ⟨rfl, _, World.drewN_drewN _ _ _⟩ | exact ⟨rfl, _, Eq.trans (World.drewN_drewN _ _ _) (congrArg (World.drewN _) (Nat.add_assoc _ _ _))⟩))))
    go_ret
    exact ⟨by first | rfl | (simp [errW_none, errW_some] <;> rfl) | (simp [*, errW_none, errW_some] <;> rfl), wB⟩

/-! ### impl_AddrKind: function 70 -/
def impl_AddrKind.f (a0 : Int) : Option (Int) := (impl_isAddr.f a0).bind fun t163 => (if t163 = true then (if a0 = 0 then (some 1) else (if (a0 / 16777216) = 127 then (some 2) else (if (a0 / 268435456) = 14 then (some 3) else (if a0 = 4294967295 then (some 4) else (if (a0 / 268435456) = 15 then (some 5) else (some 6)))))) else (some 0))
set_option maxHeartbeats 60000000 in
set_option maxRecDepth 100000 in
theorem impl_AddrKind.calls (a0 : Int) (r : Int) (w : World) (h : impl_AddrKind.f a0 = some r) :
    Calls Tryd.prog 70 #[.int .i64 a0] w fun e w' => e = .returned (.int .i64 r) ∧ Drawn0 w w' := by
  have H : ((impl_isAddr.f a0).bind fun t163 => (if t163 = true then (if a0 = 0 then (some 1) else (if (a0 / 16777216) = 127 then (some 2) else (if (a0 / 268435456) = 14 then (some 3) else (if a0 = 4294967295 then (some 4) else (if (a0 / 268435456) = 15 then (some 5) else (some 6)))))) else (some 0))) = some r := h
  clear h
  replace H := Option.bind_eq_some_iff.mp H
  obtain ⟨t163, A20, H⟩ := H
  replace H : (if t163 = true then (if a0 = 0 then (some 1) else (if (a0 / 16777216) = 127 then (some 2) else (if (a0 / 268435456) = 14 then (some 3) else (if a0 = 4294967295 then (some 4) else (if (a0 / 268435456) = 15 then (some 5) else (some 6)))))) else (some 0)) = some r := H
  have A2 := Aside0.mk A20
  clear A20
  by_cases c3 : t163 = true
  · subst c3
    have H1 : (if a0 = 0 then (some 1) else (if (a0 / 16777216) = 127 then (some 2) else (if (a0 / 268435456) = 14 then (some 3) else (if a0 = 4294967295 then (some 4) else (if (a0 / 268435456) = 15 then (some 5) else (some 6)))))) = some r := by rw [if_pos rfl] at H; exact H
    clear H
    have H := H1
    clear H1
    by_cases c4 : a0 = 0
    · rw [if_pos c4] at H
      have c4b0 : (a0 == 0) = true := beq_iff_eq.mpr c4
      have c4b1 : (a0 != 0) = false := bne_eq_false_iff_eq.mpr c4
      clear c4
      obtain rfl := Option.some.inj H
      go_enter Tryd.func70, Tryd.ntmps70
      go_wp2_with (first | ((with_reducible refine gate_callee (f := 33) rfl ?_); refine goesL_ (some 5) rfl rfl Tryd.func33 (by kernel_rfl) rfl #[.int .i64 a0] rfl wT ?_; (with_reducible refine (impl_isAddr.calls a0 true _ A2.out).mono ?_); rintro e w' ⟨rfl, ⟨nd, rfl⟩⟩; refine ⟨_, rfl, ?_⟩))
      go_ret
      exact ⟨by first | rfl | (simp; done) | (simp [*]; done), by repeat (first | exact Drawn0.refl _ | apply Drawn0.step)⟩
    · rw [if_neg c4] at H
      have c4b0 : (a0 == 0) = false := beq_eq_false_iff_ne.mpr c4
      have c4b1 : (a0 != 0) = true := bne_iff_ne.mpr c4
      by_cases c5 : (a0 / 16777216) = 127
      · rw [if_pos c5] at H
        have c5b0 : ((a0 / 16777216) == 127) = true := beq_iff_eq.mpr c5
        have c5b1 : ((a0 / 16777216) != 127) = false := bne_eq_false_iff_eq.mpr c5
        clear c5
        obtain rfl := Option.some.inj H
        go_enter Tryd.func70, Tryd.ntmps70
        go_wp2_with (first | ((with_reducible refine gate_callee (f := 33) rfl ?_); refine goesL_ (some 5) rfl rfl Tryd.func33 (by kernel_rfl) rfl #[.int .i64 a0] rfl wT ?_; (with_reducible refine (impl_isAddr.calls a0 true _ A2.out).mono ?_); rintro e w' ⟨rfl, ⟨nd, rfl⟩⟩; refine ⟨_, rfl, ?_⟩))
        go_ret
        exact ⟨by first | rfl | (simp; done) | (simp [*]; done), by repeat (first | exact Drawn0.refl _ | apply Drawn0.step)⟩
      · rw [if_neg c5] at H
        have c5b0 : ((a0 / 16777216) == 127) = false := beq_eq_false_iff_ne.mpr c5
        have c5b1 : ((a0 / 16777216) != 127) = true := bne_iff_ne.mpr c5
        by_cases c6 : (a0 / 268435456) = 14
        · rw [if_pos c6] at H
          have c6b0 : ((a0 / 268435456) == 14) = true := beq_iff_eq.mpr c6
          have c6b1 : ((a0 / 268435456) != 14) = false := bne_eq_false_iff_eq.mpr c6
          clear c6
          obtain rfl := Option.some.inj H
          go_enter Tryd.func70, Tryd.ntmps70
          go_wp2_with (first | ((with_reducible refine gate_callee (f := 33) rfl ?_); refine goesL_ (some 5) rfl rfl Tryd.func33 (by kernel_rfl) rfl #[.int .i64 a0] rfl wT ?_; (with_reducible refine (impl_isAddr.calls a0 true _ A2.out).mono ?_); rintro e w' ⟨rfl, ⟨nd, rfl⟩⟩; refine ⟨_, rfl, ?_⟩))
          go_ret
          exact ⟨by first | rfl | (simp; done) | (simp [*]; done), by repeat (first | exact Drawn0.refl _ | apply Drawn0.step)⟩
        · rw [if_neg c6] at H
          have c6b0 : ((a0 / 268435456) == 14) = false := beq_eq_false_iff_ne.mpr c6
          have c6b1 : ((a0 / 268435456) != 14) = true := bne_iff_ne.mpr c6
          by_cases c7 : a0 = 4294967295
          · rw [if_pos c7] at H
            have c7b0 : (a0 == 4294967295) = true := beq_iff_eq.mpr c7
            have c7b1 : (a0 != 4294967295) = false := bne_eq_false_iff_eq.mpr c7
            clear c7
            obtain rfl := Option.some.inj H
            go_enter Tryd.func70, Tryd.ntmps70
            go_wp2_with (first | ((with_reducible refine gate_callee (f := 33) rfl ?_); refine goesL_ (some 5) rfl rfl Tryd.func33 (by kernel_rfl) rfl #[.int .i64 a0] rfl wT ?_; (with_reducible refine (impl_isAddr.calls a0 true _ A2.out).mono ?_); rintro e w' ⟨rfl, ⟨nd, rfl⟩⟩; refine ⟨_, rfl, ?_⟩))
            go_ret
            exact ⟨by first | rfl | (simp; done) | (simp [*]; done), by repeat (first | exact Drawn0.refl _ | apply Drawn0.step)⟩
          · rw [if_neg c7] at H
            have c7b0 : (a0 == 4294967295) = false := beq_eq_false_iff_ne.mpr c7
            have c7b1 : (a0 != 4294967295) = true := bne_iff_ne.mpr c7
            by_cases c8 : (a0 / 268435456) = 15
            · rw [if_pos c8] at H
              have c8b0 : ((a0 / 268435456) == 15) = true := beq_iff_eq.mpr c8
              have c8b1 : ((a0 / 268435456) != 15) = false := bne_eq_false_iff_eq.mpr c8
              clear c8
              obtain rfl := Option.some.inj H
              go_enter Tryd.func70, Tryd.ntmps70
              go_wp2_with (first | ((with_reducible refine gate_callee (f := 33) rfl ?_); refine goesL_ (some 5) rfl rfl Tryd.func33 (by kernel_rfl) rfl #[.int .i64 a0] rfl wT ?_; (with_reducible refine (impl_isAddr.calls a0 true _ A2.out).mono ?_); rintro e w' ⟨rfl, ⟨nd, rfl⟩⟩; refine ⟨_, rfl, ?_⟩))
              go_ret
              exact ⟨by first | rfl | (simp; done) | (simp [*]; done), by repeat (first | exact Drawn0.refl _ | apply Drawn0.step)⟩
            · rw [if_neg c8] at H
              have c8b0 : ((a0 / 268435456) == 15) = false := beq_eq_false_iff_ne.mpr c8
              have c8b1 : ((a0 / 268435456) != 15) = true := bne_iff_ne.mpr c8
              obtain rfl := Option.some.inj H
              go_enter Tryd.func70, Tryd.ntmps70
              go_wp2_with (first | ((with_reducible refine gate_callee (f := 33) rfl ?_); refine goesL_ (some 5) rfl rfl Tryd.func33 (by kernel_rfl) rfl #[.int .i64 a0] rfl wT ?_; (with_reducible refine (impl_isAddr.calls a0 true _ A2.out).mono ?_); rintro e w' ⟨rfl, ⟨nd, rfl⟩⟩; refine ⟨_, rfl, ?_⟩))
              go_ret
              exact ⟨by first | rfl | (simp; done) | (simp [*]; done), by repeat (first | exact Drawn0.refl _ | apply Drawn0.step)⟩
  · replace c3 := Bool.eq_false_iff.mpr c3
    subst c3
    have H1 : (some 0) = some r := by rw [if_neg (show ¬ (false = true) by decide)] at H; exact H
    clear H
    have H := H1
    clear H1
    obtain rfl := Option.some.inj H
    go_enter Tryd.func70, Tryd.ntmps70
    go_wp2_with (first | ((with_reducible refine gate_callee (f := 33) rfl ?_); refine goesL_ (some 5) rfl rfl Tryd.func33 (by kernel_rfl) rfl #[.int .i64 a0] rfl wT ?_; (with_reducible refine (impl_isAddr.calls a0 false _ A2.out).mono ?_); rintro e w' ⟨rfl, ⟨nd, rfl⟩⟩; refine ⟨_, rfl, ?_⟩))
    go_ret
    exact ⟨by first | rfl | (simp; done) | (simp [*]; done), by repeat (first | exact Drawn0.refl _ | apply Drawn0.step)⟩

/-! ### impl_okRoute: function 54 -/
def impl_okRoute.f (a0_0 : Int) (a0_1 : Int) (a0_2 : Int) (a0_3 : Int) (a0_4 : Int) : Option (Bool) := (impl_okPrefix.f a0_0 a0_1).bind fun t165 => (if t165 = true then (if a0_2 = 0 then (if a0_3 ≥ 0 then (if a0_3 ≤ 7 then (if a0_4 ≥ 0 then (some (decide (a0_4 ≤ 1000000))) else (some false)) else (some false)) else (some false)) else ((impl_AddrKind.f a0_2).bind fun t166 => (if t166 = 6 then (if a0_3 ≥ 0 then (if a0_3 ≤ 7 then (if a0_4 ≥ 0 then (some (decide (a0_4 ≤ 1000000))) else (some false)) else (some false)) else (some false)) else (some false)))) else (some false))
set_option maxHeartbeats 60000000 in
set_option maxRecDepth 100000 in
theorem impl_okRoute.calls (a0_0 : Int) (a0_1 : Int) (a0_2 : Int) (a0_3 : Int) (a0_4 : Int) (r : Bool) (w : World) (h : impl_okRoute.f a0_0 a0_1 a0_2 a0_3 a0_4 = some r) :
 Calls Tryd.prog 54 #[.agg #[.int .i64 a0_0, .int .i64 a0_1, .int .i64 a0_2, .int .i64 a0_3, .int .i64 a0_4]] w fun e w' => e = .returned (.bool r) ∧ Below w.heap.size w w' := by
 have hu74 := Tryd.underlying74
 have hu36 := Tryd.underlying36
 have HB := Aside0.mk (Below.refl w.heap.size w)
 have H : ((impl_okPrefix.f a0_0 a0_1).bind fun t165 => (if t165 = true then (if a0_2 = 0 then (if a0_3 ≥ 0 then (if a0_3 ≤ 7 then (if a0_4 ≥ 0 then (some (decide (a0_4 ≤ 1000000))) else (some false)) else (some false)) else (some false)) else ((impl_AddrKind.f a0_2).bind fun t166 => (if t166 = 6 then (if a0_3 ≥ 0 then (if a0_3 ≤ 7 then (if a0_4 ≥ 0 then (some (decide (a0_4 ≤ 1000000))) else (some false)) else (some false)) else (some false)) else (some false)))) else (some false))) = some r := h
 clear h
 replace H := Option.bind_eq_some_iff.mp H
 obtain ⟨t165, A20, H⟩ := H
 replace H : (if t165 = true then (if a0_2 = 0 then (if a0_3 ≥ 0 then (if a0_3 ≤ 7 then (if a0_4 ≥ 0 then (some (decide (a0_4 ≤ 1000000))) else (some false)) else (some false)) else (some false)) else ((impl_AddrKind.f a0_2).bind fun t166 => (if t166 = 6 then (if a0_3 ≥ 0 then (if a0_3 ≤ 7 then (if a0_4 ≥ 0 then (some (decide (a0_4 ≤ 1000000))) else (some false)) else (some false)) else (some false)) else (some false)))) else (some false)) = some r := H
 have A2 := Aside0.mk A20
 clear A20
 by_cases c3 : t165 = true
 subst c3
 have H1 : (if a0_2 = 0 then (if a0_3 ≥ 0 then (if a0_3 ≤ 7 then (if a0_4 ≥ 0 then (some (decide (a0_4 ≤ 1000000))) else (some false)) else (some false)) else (some false)) else ((impl_AddrKind.f a0_2).bind fun t166 => (if t166 = 6 then (if a0_3 ≥ 0 then (if a0_3 ≤ 7 then (if a0_4 ≥ 0 then (some (decide (a0_4 ≤ 1000000))) else (some false)) else (some false)) else (some false)) else (some false)))) = some r := by rw [if_pos rfl] at H; exact H
 clear H
 have H := H1
 clear H1
 by_cases c4 : a0_2 = 0
 rw [if_pos c4] at H
 have c4b0 : (a0_2 == 0) = true := beq_iff_eq.mpr c4
 have c4b1 : (a0_2 != 0) = false := bne_eq_false_iff_eq.mpr c4
 clear c4
 by_cases c5 : a0_3 ≥ 0
 rw [if_pos c5] at H
 have c5b0 : decide (0 ≤ a0_3) = true := decide_eq_true c5
 clear c5
 by_cases c6 : a0_3 ≤ 7
 rw [if_pos c6] at H
 have c6b0 : decide (a0_3 ≤ 7) = true := decide_eq_true c6
 clear c6
 by_cases c7 : a0_4 ≥ 0
 rw [if_pos c7] at H
 have c7b0 : decide (0 ≤ a0_4) = true := decide_eq_true c7
 clear c7
 obtain rfl := Option.some.inj H
 rotate_left
 rw [if_neg c7] at H
 have c7b0 : decide (0 ≤ a0_4) = false := decide_eq_false c7
 clear c7
 obtain rfl := Option.some.inj H
 rotate_left
 rw [if_neg c6] at H
 have c6b0 : decide (a0_3 ≤ 7) = false := decide_eq_false c6
 clear c6
 obtain rfl := Option.some.inj H
 rotate_left
 rw [if_neg c5] at H
 have c5b0 : decide (0 ≤ a0_3) = false := decide_eq_false c5
 clear c5
 obtain rfl := Option.some.inj H
 rotate_left
 rw [if_neg c4] at H
 have c4b0 : (a0_2 == 0) = false := beq_eq_false_iff_ne.mpr c4
 have c4b1 : (a0_2 != 0) = true := bne_iff_ne.mpr c4
 replace H := Option.bind_eq_some_iff.mp H
 obtain ⟨t166, A80, H⟩ := H
 replace H : (if t166 = 6 then (if a0_3 ≥ 0 then (if a0_3 ≤ 7 then (if a0_4 ≥ 0 then (some (decide (a0_4 ≤ 1000000))) else (some false)) else (some false)) else (some false)) else (some false)) = some r := H
 have A8 := Aside0.mk A80
 clear A80
 by_cases c9 : t166 = 6
 rw [if_pos c9] at H
 have c9b0 : (t166 == 6) = true := beq_iff_eq.mpr c9
 have c9b1 : (t166 != 6) = false := bne_eq_false_iff_eq.mpr c9
 clear c9
 by_cases c10 : a0_3 ≥ 0
 rw [if_pos c10] at H
 have c10b0 : decide (0 ≤ a0_3) = true := decide_eq_true c10
 clear c10
 by_cases c11 : a0_3 ≤ 7
 rw [if_pos c11] at H
 have c11b0 : decide (a0_3 ≤ 7) = true := decide_eq_true c11
 clear c11
 by_cases c12 : a0_4 ≥ 0
 rw [if_pos c12] at H
 have c12b0 : decide (0 ≤ a0_4) = true := decide_eq_true c12
 clear c12
 obtain rfl := Option.some.inj H
 rotate_left
 rw [if_neg c12] at H
 have c12b0 : decide (0 ≤ a0_4) = false := decide_eq_false c12
 clear c12
 obtain rfl := Option.some.inj H
 rotate_left
 rw [if_neg c11] at H
 have c11b0 : decide (a0_3 ≤ 7) = false := decide_eq_false c11
 clear c11
 obtain rfl := Option.some.inj H
 rotate_left
 rw [if_neg c10] at H
 have c10b0 : decide (0 ≤ a0_3) = false := decide_eq_false c10
 clear c10
 obtain rfl := Option.some.inj H
 rotate_left
 rw [if_neg c9] at H
 have c9b0 : (t166 == 6) = false := beq_eq_false_iff_ne.mpr c9
 have c9b1 : (t166 != 6) = true := bne_iff_ne.mpr c9
 obtain rfl := Option.some.inj H
 rotate_left
 replace c3 := Bool.eq_false_iff.mpr c3
 subst c3
 have H1 : (some false) = some r := by rw [if_neg (show ¬ (false = true) by decide)] at H; exact H
 clear H
 have H := H1
 clear H1
 obtain rfl := Option.some.inj H
 rotate_left
 all_goals (
 go_enter Tryd.func54, Tryd.ntmps54
 )
 iterate 9 (
 focus (
 go_wp2_with (first | ((with_reducible refine gate_dst (N := 1) rfl ?_); refine box_event ?hg (N := 1) ?hd (cs := #[.int .i64 a0_0, .int .i64 a0_1, .int .i64 a0_2, .int .i64 a0_3, .int .i64 a0_4]) (t := 74) ?hr ?_; (case hd => rfl); (case hg => rfl); (case hr => first | (go_simp; done) | (go_simp; rfl)); intro gb164 hg w1001 hbox hb; have n0_ := Aside0.mk (below_step wB hb); have n1_ := Aside0.mk (hbox); have n2_ := Aside0.mk ((by rw [hg]; exact (below_size wB) : w.heap.size ≤ gb164)); have n3_ := Aside0.mk ((by rw [hg]; exact (below_size wB) : w.heap.size ≤ gb164)); clear HB; have HB := n0_; have BK164 := n1_; have GW164 := n2_; have GE164 := n3_; clear n0_ n1_ n2_ n3_; clear hb hbox hg; obtain ⟨⟨hcz1002_0, hcz1002_1, hcz1002_2, hcz1002_3, hcz1002_4⟩, hfz1002_0, hfz1002_1, hfz1002_2, hfz1002_3, hfz1002_4⟩ := cells5 BK164.out) | ((with_reducible refine gate_callee (f := 47) rfl ?_); refine goesL_ (some 5) rfl rfl Tryd.func47 (by kernel_rfl) rfl #[.agg #[.int .i64 a0_0, .int .i64 a0_1]] rfl wT ?_; (with_reducible refine (impl_okPrefix.calls a0_0 a0_1 true _ A2.out).mono ?_); rintro e w1003 ⟨rfl, hb⟩; refine ⟨_, rfl, ?_⟩; have n0_ := Aside0.mk (blk_below (Bh BK164) hb); have n1_ := Aside0.mk (below_step wB hb); clear BK164; clear HB; have BK164 := n0_; have HB := n1_; clear n0_ n1_; (try clear hb); (try clear hb2); (try clear hk); (try clear hi); obtain ⟨⟨hcz1004_0, hcz1004_1, hcz1004_2, hcz1004_3, hcz1004_4⟩, hfz1004_0, hfz1004_1, hfz1004_2, hfz1004_3, hfz1004_4⟩ := cells5 BK164.out) | (go_at_call 70; (with_reducible refine (impl_AddrKind.calls a0_2 t166 _ A8.out).mono ?_); rintro e w' ⟨rfl, ⟨nd, rfl⟩⟩))
 all_goals (try (rename_i h_; exfalso; cases h_; done))
 all_goals (try (rename_i h_ h2_; exfalso; cases h_; done))
 go_ret
 exact ⟨by first | rfl | (simp [errW_none, errW_some] <;> rfl) | (simp [*, errW_none, errW_some] <;> rfl), wB⟩
 )
 )
 {
 go_wp2_with (first | ((with_reducible refine gate_dst (N := 1) rfl ?_); refine box_event ?hg (N := 1) ?hd (cs := #[.int .i64 a0_0, .int .i64 a0_1, .int .i64 a0_2, .int .i64 a0_3, .int .i64 a0_4]) (t := 74) ?hr ?_; (case hd => rfl); (case hg => rfl); (case hr => first | (go_simp; done) | (go_simp; rfl)); intro gb164 hg w1001 hbox hb; have n0_ := Aside0.mk (below_step wB hb); have n1_ := Aside0.mk (hbox); have n2_ := Aside0.mk ((by rw [hg]; exact (below_size wB) : w.heap.size ≤ gb164)); have n3_ := Aside0.mk ((by rw [hg]; exact (below_size wB) : w.heap.size ≤ gb164)); clear HB; have HB := n0_; have BK164 := n1_; have GW164 := n2_; have GE164 := n3_; clear n0_ n1_ n2_ n3_; clear hb hbox hg; obtain ⟨⟨hcz1002_0, hcz1002_1, hcz1002_2, hcz1002_3, hcz1002_4⟩, hfz1002_0, hfz1002_1, hfz1002_2, hfz1002_3, hfz1002_4⟩ := cells5 BK164.out) | ((with_reducible refine gate_callee (f := 47) rfl ?_); refine goesL_ (some 5) rfl rfl Tryd.func47 (by kernel_rfl) rfl #[.agg #[.int .i64 a0_0, .int .i64 a0_1]] rfl wT ?_; (with_reducible refine (impl_okPrefix.calls a0_0 a0_1 false _ A2.out).mono ?_); rintro e w1003 ⟨rfl, hb⟩; refine ⟨_, rfl, ?_⟩; have n0_ := Aside0.mk (blk_below (Bh BK164) hb); have n1_ := Aside0.mk (below_step wB hb); clear BK164; clear HB; have BK164 := n0_; have HB := n1_; clear n0_ n1_; (try clear hb); (try clear hb2); (try clear hk); (try clear hi)))
 all_goals (try (rename_i h_; exfalso; cases h_; done))
 all_goals (try (rename_i h_ h2_; exfalso; cases h_; done))
 go_ret
 exact ⟨by first | rfl | (simp [errW_none, errW_some] <;> rfl) | (simp [*, errW_none, errW_some] <;> rfl), wB⟩
 }

/-! ### strconv_FormatInt: function 34 -/
def strconv_FormatInt.f (a0 a1 : Int) : Option ByteArray := if a1 = 10 ∧ -9223372036854775808 ≤ a0 ∧ a0 ≤ 9223372036854775807 then some ⟨(Lib.itoa a0).toArray⟩ else none
theorem strconv_FormatInt.calls (a0 a1 : Int) (r : ByteArray) (w : World) (hd : Door w) (h : strconv_FormatInt.f a0 a1 = some r) :
    Calls Tryd.prog 34 #[.int .i64 a0, .int .i64 a1] w fun e w' => e = .returned (.string r) ∧ Below w.heap.size w w' := by
  unfold strconv_FormatInt.f at h
  split at h
  · rename_i hc
    obtain ⟨rfl, h0, h1⟩ := hc
    obtain rfl := Option.some.inj h
    refine (Tryd.strconv_FormatInt_10 a0 h0 h1 w hd.2).mono ?_
    rintro e w' ⟨rfl, k, os, rfl⟩
    exact ⟨rfl, below_grow_drewN w k os⟩
  · cases h


/-! ### strings_Join: function 35 -/
def strings_Join.f (l0 : List ByteArray) (a1 : ByteArray) : Option ByteArray := if l0.length ≤ 140737488355328 ∧ (Lib.join (l0.map (·.data.toList)) a1.data.toList).length ≤ 140737488355328 then some ⟨(Lib.join (l0.map (·.data.toList)) a1.data.toList).toArray⟩ else none
theorem strings_Join.calls (A0 : Option Addr) (c0 : Nat) (l0 : List ByteArray) (a1 : ByteArray) (r : ByteArray) (w : World) (hr0 : Kd.C Kd.string w A0 l0.length l0) (hc0 : l0.length ≤ c0) (h : strings_Join.f l0 a1 = some r) :
    Calls Tryd.prog 35 #[.slice A0 l0.length c0, .string a1] w fun e w' => e = .returned (.string r) ∧ Below w.heap.size w w' := by
  unfold strings_Join.f at h
  split at h
  · rename_i hc
    obtain rfl := Option.some.inj h
    rcases Nat.eq_zero_or_pos l0.length with h0 | h0
    · obtain rfl := List.length_eq_zero_iff.1 h0
      refine (Tryd.strings_Join_none A0 c0 a1 w).mono ?_
      rintro e w' ⟨rfl, rfl⟩
      exact ⟨rfl, Below.refl _ _⟩
    · obtain ⟨ad, rfl, hcell⟩ := hr0.2.2 h0
      have hget : ∀ (j : Nat) x, l0[j]? = some x → w.cell? (ad.add j) = some (.string x) := by
        intro j x hj
        obtain ⟨c, _, rfl, h2⟩ := hcell j x hj
        have := h2 0 _ rfl
        simpa [Kd.string, Kd.scalar] using this
      obtain ⟨bk, o, sp⟩ := ad
      have hz := hget 0 _ (List.getElem?_eq_getElem h0)
      have hsp : sp = none := by
        cases sp with
        | none => rfl
        | some s =>
          simp only [Addr.add, if_true, World.cell?] at hz
          split at hz <;> simp at hz
      subst hsp
      have hbk : bk < w.heap.size := World.block_lt_of_cell? w _ hz
      refine Tryd.strings_Join bk o c0 l0 a1 w (fun j x hj => ?_) hbk hc.1 hc0 hc.2
      have := hget j x hj
      unfold Addr.add at this
      split at this
      · rename_i hj0
        subst hj0
        exact this
      · exact this
  · cases h


/-! ### impl_ShowAddr: function 13 -/
def impl_ShowAddr.l0 : Nat → Int → List ByteArray → Int → Option (ByteArray × Int)
  | 0, _, _, _ => none
  | k + 1, x0, x4, x5 => if x5 ≥ 0 then (if 0 ≤ x5 then ((strconv_FormatInt.f (Go.bits .and .i64 (shr .i64 x0 x5) 255) 10).bind fun t168 => (if x4.length < 8796093022208 then (impl_ShowAddr.l0 k x0 (x4 ++ [t168]) (wrap64 (x5 - 8))) else (none))) else (none)) else ((strings_Join.f x4 (⟨#[46]⟩ : ByteArray)).bind fun t172 => (some (t172, 0)))
def impl_ShowAddr.f (k : Nat) (a0 : Int) : Option (ByteArray × Int) := (impl_isAddr.f a0).bind fun t167 => (if t167 = true then (impl_ShowAddr.l0 k a0 ([] : List ByteArray) 24) else (some ((⟨#[]⟩ : ByteArray), 1)))
theorem impl_ShowAddr.mono_l : ∀ k, (∀ y0 y1 y2, LeO (impl_ShowAddr.l0 k y0 y1 y2) (impl_ShowAddr.l0 (k + 1) y0 y1 y2))
  | 0 => fun _ _ _ r h => by simp [impl_ShowAddr.l0] at h
  | k + 1 => by
    have ih0 := impl_ShowAddr.mono_l k
    · intro y0 y1 y2
      unfold impl_ShowAddr.l0
      repeat' first
      | (with_reducible exact ih0 _ _ _)
      | (with_reducible exact LeO.refl _)
      | (with_reducible exact LeO.none _)
      | (with_reducible refine LeO.ite ?_ ?_)
      | (with_reducible refine LeO.bind ?_ (fun _ => ?_))
      | exact ih0 _ _ _
      | exact LeO.none _
      | refine LeO.ite ?_ ?_
      | refine LeO.bind ?_ (fun _ => ?_)
theorem impl_ShowAddr.mono : ∀ a0 k, LeO (impl_ShowAddr.f k a0) (impl_ShowAddr.f (k + 1) a0) := by
  intro a0 k
  have ih0 := impl_ShowAddr.mono_l k
  unfold impl_ShowAddr.f
  repeat' first
      | (with_reducible exact ih0 _ _ _)
      | (with_reducible exact LeO.refl _)
      | (with_reducible exact LeO.none _)
      | (with_reducible refine LeO.ite ?_ ?_)
      | (with_reducible refine LeO.bind ?_ (fun _ => ?_))
      | exact ih0 _ _ _
      | exact LeO.none _
      | refine LeO.ite ?_ ?_
      | refine LeO.bind ?_ (fun _ => ?_)
set_option maxHeartbeats 60000000 in
set_option maxRecDepth 100000 in
theorem impl_ShowAddr.calls (k : Nat) (a0 : Int) (r1 : ByteArray) (r2 : Int) (w : World) (hd : Door w) (h : impl_ShowAddr.f k a0 = some (r1, r2)) :
    Calls Tryd.prog 13 #[.int .i64 a0] w fun e w' => e = .returned (.tuple #[.string r1, .int .i64 r2]) ∧ Below w.heap.size w w' := by
  have HD := Aside0.mk hd
  clear hd
  have HB := Aside0.mk (Below.refl w.heap.size w)
  have H : ((impl_isAddr.f a0).bind fun t167 => (if t167 = true then (impl_ShowAddr.l0 k a0 ([] : List ByteArray) 24) else (some ((⟨#[]⟩ : ByteArray), 1)))) = some (r1, r2) := h
  clear h
  replace H := Option.bind_eq_some_iff.mp H
  obtain ⟨t167, A20, H⟩ := H
  replace H : (if t167 = true then (impl_ShowAddr.l0 k a0 ([] : List ByteArray) 24) else (some ((⟨#[]⟩ : ByteArray), 1))) = some (r1, r2) := H
  have A2 := Aside0.mk A20
  clear A20
  by_cases c3 : t167 = true
  · subst c3
    have H1 : (impl_ShowAddr.l0 k a0 ([] : List ByteArray) 24) = some (r1, r2) := by rw [if_pos rfl] at H; exact H
    clear H
    have H := H1
    clear H1
    have H' := Aside0.mk H
    clear H
    go_enter Tryd.func13, Tryd.ntmps13
    go_wp2_with (first | ((with_reducible refine gate_callee (f := 33) rfl ?_); refine goesL_ (some 7) rfl rfl Tryd.func33 (by kernel_rfl) rfl #[.int .i64 a0] rfl wT ?_; (with_reducible refine (impl_isAddr.calls a0 true _ A2.out).mono ?_); rintro e w' ⟨rfl, ⟨nd, rfl⟩⟩; refine ⟨_, rfl, ?_⟩))
    go_loopg [4, 5] k (fun kq v4 v5 w' => ∃ (x4_1 : List ByteArray) (x5_1 : Int), v5 = .int .i64 x5_1 ∧ Aside0 (impl_ShowAddr.l0 kq a0 x4_1 x5_1 = some (r1, r2)) ∧ Aside0 (kq ≤ k) ∧ Aside0 (Kd.R Kd.string 9 w' w.heap.size (fun _ => True) v4 x4_1) ∧ Aside0 (Below w.heap.size w w'))
    case atStart => exact ⟨(([] : List ByteArray)), (24), (by first | rfl | (simp; done) | (simp [*]; done)), H', ⟨Nat.le_refl _⟩, ⟨by first | exact Kd.R_nil _ _ _ _ _ | exact Kd.N_nil _ _ _ _ _ | exact Kd.V_nil _ _ _ _ _ | exact Kd.Q_nil _ _ _ _ _ | exact Kd.S_nil _ _ _ _ _⟩, ⟨wB⟩⟩
    case round =>
      clear H'
      try clear c3
      obtain ⟨x4_1, x5_1, rfl, HA, HK1, HO_4, HB⟩ := hrel
      cases gk with
      | zero => exact absurd HA.out (by simp [impl_ShowAddr.l0])
      | succ k1 =>
        have H := HA.out
        clear HA
        simp only [impl_ShowAddr.l0] at H
        by_cases c1001 : x5_1 ≥ 0
        · rw [if_pos c1001] at H
          have c1001b0 : decide (0 ≤ x5_1) = true := decide_eq_true c1001
          clear c1001
          by_cases c1002 : 0 ≤ x5_1
          · rw [if_pos c1002] at H
            have c1002b0 := eq_true c1002
            have c1002b1 : decide (0 ≤ x5_1) = true := decide_eq_true c1002
            clear c1002
            obtain ⟨ji1003, hji1003⟩ : ∃ j_ : Int, (shr .i64 a0 x5_1) = j_ := ⟨_, rfl⟩
            replace H : ((strconv_FormatInt.f (Go.bits .and .i64 (ji1003) 255) 10).bind fun t168 => (if x4_1.length < 8796093022208 then (impl_ShowAddr.l0 k1 a0 (x4_1 ++ [t168]) (wrap64 (x5_1 - 8))) else (none))) = some (r1, r2) := by first | (rw [hji1003] at H; exact H) | (simp only [hji1003] at H ⊢; exact H)
            have hji1003_ : (a0 / 2 ^ min x5_1.toNat 64) = ji1003 := hji1003
            have hji1003z : x5_1 ≤ 64 → (a0 / 2 ^ x5_1.toNat) = ji1003 := shr_small hji1003
            replace H := Option.bind_eq_some_iff.mp H
            obtain ⟨t168, A10040, H⟩ := H
            replace H : (if x4_1.length < 8796093022208 then (impl_ShowAddr.l0 k1 a0 (x4_1 ++ [t168]) (wrap64 (x5_1 - 8))) else (none)) = some (r1, r2) := H
            have A1004 := Aside0.mk A10040
            clear A10040
            by_cases c1005 : x4_1.length < 8796093022208
            · rw [if_pos c1005] at H
              have LMc1005 := Aside0.mk c1005
              clear c1005
              obtain ⟨y169, hy169⟩ : ∃ y_ : List ByteArray, y_ = (x4_1 ++ [t168]) := ⟨_, rfl⟩
              replace H : (impl_ShowAddr.l0 k1 a0 y169 (wrap64 (x5_1 - 8))) = some (r1, r2) := by first | (rw [hy169]; with_reducible exact H) | (have H2_ := (Option.bind_some _ _).symm.trans H; rw [hy169]; with_reducible exact H2_) | (have H2_ := (Option.bind_some _ _).symm.trans H; with_reducible exact H2_) | with_reducible exact H | (rw [hy169]; exact H) | exact H
              have Ny169 := Aside0.mk hy169
              clear hy169
              have H' := Aside0.mk H
              clear H
              go_wp2_with (first | ((with_reducible refine gate_callee (f := 34) rfl ?_); refine goesL_ (some 18) rfl rfl Tryd.func34 (by kernel_rfl) rfl #[.int .i64 (Go.bits .and .i64 (ji1003) 255), .int .i64 10] rfl (by (try simp only [List.map_toArray, List.map_cons, List.map_nil]); first | done | (simp only [hji1003]; rfl) | rfl | (simp only [List.length_drop, List.length_take]; rfl)) ?_; (with_reducible refine (strconv_FormatInt.calls (Go.bits .and .i64 (ji1003) 255) 10 t168 _ ?side1 A1004.out).mono ?_); (case side1 => repeat (first | exact (Door.c_below HD.out HB.out) | (with_reducible refine Door.c_alloc ?_ _) | (with_reducible refine Door.c_drewN ?_ _) | (with_reducible refine Door.c_drew ?_))); rintro e w2001 ⟨rfl, hb⟩; refine ⟨_, rfl, ?_⟩; have n0_ := Aside0.mk (Kd.R_below (Rh HO_4) hb); have n1_ := Aside0.mk (below_step wB hb); clear HO_4; clear HB; have HO_4 := n0_; have HB := n1_; clear n0_ n1_; (try clear hb); (try clear hb2); (try clear hk); (try clear hi)) | ((with_reducible refine gate_builtin (b := .append) (xs := #[.tmp 13, .tmp 19]) rfl ?_); at_builtin; refine Kd.R_append Kd.string (w0 := w) w.heap.size rfl (.tmp 13) (.tmp 19) 54 9 (.string ⟨#[]⟩) 16 rfl Tryd.underlying54 info9 rfl (by decide) (by omega) u4 x4_1 t168 [.string t168] (fun _ => True) (fun _ => False) rfl rfl ?aP (fun _ hk => hk.elim) ?aF ?aO ?aB ?aS ?aL ?_; (case aP => exact rfl); (case aB => exact wB); (case aF => exact (fun _ _ => trivial)); (case aO => exact (Rh HO_4)); (case aS => exact (below_size wB)); (case aL => have := LMc1005.out; omega); intro v170 w2002 ho hb hg hat; rw [← Ny169.out] at ho; have n0_ := Aside0.mk (hb); have n1_ := Aside0.mk (ho); clear HB; clear HO_4; have HB := n0_; have HO171 := n1_; clear n0_ n1_; clear ho hb hg hat))
              go_roundg k1
              case measure => have := HK1.out; omega
              case rel => exact ⟨(y169), (wrap64 (x5_1 - 8)), (by first | rfl | (simp; done) | (simp [*]; done)), H', ⟨by have := HK1.out; omega⟩, ⟨Rh HO171⟩, ⟨wB⟩⟩
            · rw [if_neg c1005] at H
              exact absurd H (by simp)
          · rw [if_neg c1002] at H
            exact absurd H (by simp)
        · rw [if_neg c1001] at H
          have c1001b0 : decide (0 ≤ x5_1) = false := decide_eq_false c1001
          clear c1001
          replace H := Option.bind_eq_some_iff.mp H
          obtain ⟨t172, A10060, H⟩ := H
          replace H : (some (t172, 0)) = some (r1, r2) := H
          have A1006 := Aside0.mk A10060
          clear A10060
          simp only [Option.some.injEq, Prod.mk.injEq] at H
          obtain ⟨rfl, rfl⟩ := H
          obtain ⟨Ao2001, co2001, eo2001⟩ := Kd.R_slice HO_4.out
          subst eo2001
          go_wp2_with (first | ((with_reducible refine gate_callee (f := 35) rfl ?_); refine goesL_ (some 22) rfl rfl Tryd.func35 (by kernel_rfl) rfl #[.slice Ao2001 x4_1.length co2001, .string (⟨#[46]⟩ : ByteArray)] rfl wT ?_; (with_reducible refine (strings_Join.calls _ _ x4_1 (⟨#[46]⟩ : ByteArray) t172 _ ?side1 ?side2 A1006.out).mono ?_); (case side1 => exact Ch HO_4); (case side2 => exact (Kd.R_reads' HO_4.out).2.1); rintro e w2002 ⟨rfl, hb⟩; refine ⟨_, rfl, ?_⟩; have n0_ := Aside0.mk (Kd.R_below (Rh HO_4) hb); have n1_ := Aside0.mk (below_step wB hb); clear HO_4; clear HB; have HO_4 := n0_; have HB := n1_; clear n0_ n1_; (try clear hb); (try clear hb2); (try clear hk); (try clear hi)))
          go_ret2
          exact ⟨by first | rfl | (simp [errW_none, errW_some] <;> rfl) | (simp [*, errW_none, errW_some] <;> rfl), wB⟩
  · replace c3 := Bool.eq_false_iff.mpr c3
    subst c3
    have H1 : (some ((⟨#[]⟩ : ByteArray), 1)) = some (r1, r2) := by rw [if_neg (show ¬ (false = true) by decide)] at H; exact H
    clear H
    have H := H1
    clear H1
    simp only [Option.some.injEq, Prod.mk.injEq] at H
    obtain ⟨rfl, rfl⟩ := H
    go_enter Tryd.func13, Tryd.ntmps13
    go_wp2_with (first | ((with_reducible refine gate_callee (f := 33) rfl ?_); refine goesL_ (some 7) rfl rfl Tryd.func33 (by kernel_rfl) rfl #[.int .i64 a0] rfl wT ?_; (with_reducible refine (impl_isAddr.calls a0 false _ A2.out).mono ?_); rintro e w' ⟨rfl, ⟨nd, rfl⟩⟩; refine ⟨_, rfl, ?_⟩))
    go_ret2
    exact ⟨by first | rfl | (simp [errW_none, errW_some] <;> rfl) | (simp [*, errW_none, errW_some] <;> rfl), wB⟩

/-! ### impl_ShowPrefix: function 20 -/
def impl_ShowPrefix.f (k : Nat) (a0_0 : Int) (a0_1 : Int) : Option (ByteArray × Int) := (impl_okPrefix.f a0_0 a0_1).bind fun t174 => (if t174 = true then ((impl_ShowAddr.f k a0_0).bind fun bt175 => (if bt175.1.size + 1 ≤ 9223372036854775807 then ((strconv_FormatInt.f a0_1 10).bind fun t177 => (if (bt175.1 ++ (⟨#[47]⟩ : ByteArray)).size + t177.size ≤ 9223372036854775807 then (some ((bt175.1 ++ (⟨#[47]⟩ : ByteArray)) ++ t177, 0)) else (none))) else (none))) else (some ((⟨#[]⟩ : ByteArray), 1)))
theorem impl_ShowPrefix.mono : ∀ a0 a1 k, LeO (impl_ShowPrefix.f k a0 a1) (impl_ShowPrefix.f (k + 1) a0 a1) := by
  intro a0 a1 k
  unfold impl_ShowPrefix.f
  repeat' first
      | (with_reducible exact impl_ShowAddr.mono _ _)
      | (with_reducible exact LeO.refl _)
      | (with_reducible exact LeO.none _)
      | (with_reducible refine LeO.ite ?_ ?_)
      | (with_reducible refine LeO.bind ?_ (fun _ => ?_))
      | exact impl_ShowAddr.mono _ _
      | exact LeO.none _
      | refine LeO.ite ?_ ?_
      | refine LeO.bind ?_ (fun _ => ?_)
set_option maxHeartbeats 60000000 in
set_option maxRecDepth 100000 in
theorem impl_ShowPrefix.calls (k : Nat) (a0_0 : Int) (a0_1 : Int) (r1 : ByteArray) (r2 : Int) (w : World) (hd : Door w) (h : impl_ShowPrefix.f k a0_0 a0_1 = some (r1, r2)) :
    Calls Tryd.prog 20 #[.agg #[.int .i64 a0_0, .int .i64 a0_1]] w fun e w' => e = .returned (.tuple #[.string r1, .int .i64 r2]) ∧ Below w.heap.size w w' := by
  have hu36 := Tryd.underlying36
  have HD := Aside0.mk hd
  clear hd
  have HB := Aside0.mk (Below.refl w.heap.size w)
  have H : ((impl_okPrefix.f a0_0 a0_1).bind fun t174 => (if t174 = true then ((impl_ShowAddr.f k a0_0).bind fun bt175 => (if bt175.1.size + 1 ≤ 9223372036854775807 then ((strconv_FormatInt.f a0_1 10).bind fun t177 => (if (bt175.1 ++ (⟨#[47]⟩ : ByteArray)).size + t177.size ≤ 9223372036854775807 then (some ((bt175.1 ++ (⟨#[47]⟩ : ByteArray)) ++ t177, 0)) else (none))) else (none))) else (some ((⟨#[]⟩ : ByteArray), 1)))) = some (r1, r2) := h
  clear h
  replace H := Option.bind_eq_some_iff.mp H
  obtain ⟨t174, A20, H⟩ := H
  replace H : (if t174 = true then ((impl_ShowAddr.f k a0_0).bind fun bt175 => (if bt175.1.size + 1 ≤ 9223372036854775807 then ((strconv_FormatInt.f a0_1 10).bind fun t177 => (if (bt175.1 ++ (⟨#[47]⟩ : ByteArray)).size + t177.size ≤ 9223372036854775807 then (some ((bt175.1 ++ (⟨#[47]⟩ : ByteArray)) ++ t177, 0)) else (none))) else (none))) else (some ((⟨#[]⟩ : ByteArray), 1))) = some (r1, r2) := H
  have A2 := Aside0.mk A20
  clear A20
  by_cases c3 : t174 = true
  · subst c3
    have H1 : ((impl_ShowAddr.f k a0_0).bind fun bt175 => (if bt175.1.size + 1 ≤ 9223372036854775807 then ((strconv_FormatInt.f a0_1 10).bind fun t177 => (if (bt175.1 ++ (⟨#[47]⟩ : ByteArray)).size + t177.size ≤ 9223372036854775807 then (some ((bt175.1 ++ (⟨#[47]⟩ : ByteArray)) ++ t177, 0)) else (none))) else (none))) = some (r1, r2) := by rw [if_pos rfl] at H; exact H
    clear H
    have H := H1
    clear H1
    replace H := Option.bind_eq_some_iff.mp H
    obtain ⟨⟨t175, t176⟩, A40, H⟩ := H
    replace H : (if t175.size + 1 ≤ 9223372036854775807 then ((strconv_FormatInt.f a0_1 10).bind fun t177 => (if (t175 ++ (⟨#[47]⟩ : ByteArray)).size + t177.size ≤ 9223372036854775807 then (some ((t175 ++ (⟨#[47]⟩ : ByteArray)) ++ t177, 0)) else (none))) else (none)) = some (r1, r2) := H
    have A4 := Aside0.mk A40
    clear A40
    by_cases c5 : t175.size + 1 ≤ 9223372036854775807
    · rw [if_pos c5] at H
      have c5b0 := eq_true c5
      have c5b1 : decide (t175.size + 1 ≤ 9223372036854775807) = true := decide_eq_true c5
      try have c5b2 : (9223372036854775807 < t175.size + 1) = False := eq_false (Nat.not_lt.2 c5)
      replace H := Option.bind_eq_some_iff.mp H
      obtain ⟨t177, A60, H⟩ := H
      replace H : (if (t175 ++ (⟨#[47]⟩ : ByteArray)).size + t177.size ≤ 9223372036854775807 then (some ((t175 ++ (⟨#[47]⟩ : ByteArray)) ++ t177, 0)) else (none)) = some (r1, r2) := H
      have A6 := Aside0.mk A60
      clear A60
      by_cases c7 : (t175 ++ (⟨#[47]⟩ : ByteArray)).size + t177.size ≤ 9223372036854775807
      · rw [if_pos c7] at H
        have c7b0 := eq_true c7
        have c7b1 : decide ((t175 ++ (⟨#[47]⟩ : ByteArray)).size + t177.size ≤ 9223372036854775807) = true := decide_eq_true c7
        try have c7b2 : (9223372036854775807 < (t175 ++ (⟨#[47]⟩ : ByteArray)).size + t177.size) = False := eq_false (Nat.not_lt.2 c7)
        (try (have c7b5 := c7b2; simp only [ByteArray.size_append, show (⟨#[47]⟩ : ByteArray).size = 1 from rfl] at c7b5))
        simp only [Option.some.injEq, Prod.mk.injEq] at H
        obtain ⟨rfl, rfl⟩ := H
        go_enter Tryd.func20, Tryd.ntmps20
        go_wp2_with (first | ((with_reducible refine gate_dst (N := 1) rfl ?_); refine box_event ?hg (N := 1) ?hd (cs := #[.int .i64 a0_0, .int .i64 a0_1]) (t := 36) ?hr ?_; (case hd => rfl); (case hg => rfl); (case hr => first | (go_simp; done) | (go_simp; rfl)); intro gb173 hg w1001 hbox hb; have n0_ := Aside0.mk (below_step wB hb); have n1_ := Aside0.mk (hbox); have n2_ := Aside0.mk ((by rw [hg]; exact (below_size wB) : w.heap.size ≤ gb173)); have n3_ := Aside0.mk ((by rw [hg]; exact (below_size wB) : w.heap.size ≤ gb173)); clear HB; have HB := n0_; have BK173 := n1_; have GW173 := n2_; have GE173 := n3_; clear n0_ n1_ n2_ n3_; clear hb hbox hg; obtain ⟨⟨hcz1002_0, hcz1002_1⟩, hfz1002_0, hfz1002_1⟩ := cells2 BK173.out) | ((with_reducible refine gate_callee (f := 47) rfl ?_); refine goesL_ (some 7) rfl rfl Tryd.func47 (by kernel_rfl) rfl #[.agg #[.int .i64 a0_0, .int .i64 a0_1]] rfl wT ?_; (with_reducible refine (impl_okPrefix.calls a0_0 a0_1 true _ A2.out).mono ?_); rintro e w1003 ⟨rfl, hb⟩; refine ⟨_, rfl, ?_⟩; have n0_ := Aside0.mk (blk_below (Bh BK173) hb); have n1_ := Aside0.mk (below_step wB hb); clear BK173; clear HB; have BK173 := n0_; have HB := n1_; clear n0_ n1_; (try clear hb); (try clear hb2); (try clear hk); (try clear hi); obtain ⟨⟨hcz1004_0, hcz1004_1⟩, hfz1004_0, hfz1004_1⟩ := cells2 BK173.out) | ((with_reducible refine gate_callee (f := 13) rfl ?_); refine goesL_ (some 12) rfl rfl Tryd.func13 (by kernel_rfl) rfl #[.int .i64 a0_0] rfl wT ?_; (with_reducible refine (impl_ShowAddr.calls k a0_0 t175 t176 _ ?side1 A4.out).mono ?_); (case side1 => repeat (first | exact (Door.c_below HD.out HB.out) | (with_reducible refine Door.c_alloc ?_ _) | (with_reducible refine Door.c_drewN ?_ _) | (with_reducible refine Door.c_drew ?_))); rintro e w1005 ⟨rfl, hb⟩; refine ⟨_, rfl, ?_⟩; have n0_ := Aside0.mk (blk_below (Bh BK173) hb); have n1_ := Aside0.mk (below_step wB hb); clear BK173; clear HB; have BK173 := n0_; have HB := n1_; clear n0_ n1_; (try clear hb); (try clear hb2); (try clear hk); (try clear hi); obtain ⟨⟨hcz1006_0, hcz1006_1⟩, hfz1006_0, hfz1006_1⟩ := cells2 BK173.out) | ((with_reducible refine gate_callee (f := 34) rfl ?_); refine goesL_ (some 19) rfl rfl Tryd.func34 (by kernel_rfl) rfl #[.int .i64 a0_1, .int .i64 10] rfl wT ?_; (with_reducible refine (strconv_FormatInt.calls a0_1 10 t177 _ ?side1 A6.out).mono ?_); (case side1 => repeat (first | exact (Door.c_below HD.out HB.out) | (with_reducible refine Door.c_alloc ?_ _) | (with_reducible refine Door.c_drewN ?_ _) | (with_reducible refine Door.c_drew ?_))); rintro e w1007 ⟨rfl, hb⟩; refine ⟨_, rfl, ?_⟩; have n0_ := Aside0.mk (blk_below (Bh BK173) hb); have n1_ := Aside0.mk (below_step wB hb); clear BK173; clear HB; have BK173 := n0_; have HB := n1_; clear n0_ n1_; (try clear hb); (try clear hb2); (try clear hk); (try clear hi)))
        go_ret2
        exact ⟨by first | rfl | (simp [errW_none, errW_some] <;> rfl) | (simp [*, errW_none, errW_some] <;> rfl), wB⟩
      · rw [if_neg c7] at H
        exact absurd H (by simp)
    · rw [if_neg c5] at H
      exact absurd H (by simp)
  · replace c3 := Bool.eq_false_iff.mpr c3
    subst c3
    have H1 : (some ((⟨#[]⟩ : ByteArray), 1)) = some (r1, r2) := by rw [if_neg (show ¬ (false = true) by decide)] at H; exact H
    clear H
    have H := H1
    clear H1
    simp only [Option.some.injEq, Prod.mk.injEq] at H
    obtain ⟨rfl, rfl⟩ := H
    go_enter Tryd.func20, Tryd.ntmps20
    go_wp2_with (first | ((with_reducible refine gate_dst (N := 1) rfl ?_); refine box_event ?hg (N := 1) ?hd (cs := #[.int .i64 a0_0, .int .i64 a0_1]) (t := 36) ?hr ?_; (case hd => rfl); (case hg => rfl); (case hr => first | (go_simp; done) | (go_simp; rfl)); intro gb173 hg w1001 hbox hb; have n0_ := Aside0.mk (below_step wB hb); have n1_ := Aside0.mk (hbox); have n2_ := Aside0.mk ((by rw [hg]; exact (below_size wB) : w.heap.size ≤ gb173)); have n3_ := Aside0.mk ((by rw [hg]; exact (below_size wB) : w.heap.size ≤ gb173)); clear HB; have HB := n0_; have BK173 := n1_; have GW173 := n2_; have GE173 := n3_; clear n0_ n1_ n2_ n3_; clear hb hbox hg; obtain ⟨⟨hcz1002_0, hcz1002_1⟩, hfz1002_0, hfz1002_1⟩ := cells2 BK173.out) | ((with_reducible refine gate_callee (f := 47) rfl ?_); refine goesL_ (some 7) rfl rfl Tryd.func47 (by kernel_rfl) rfl #[.agg #[.int .i64 a0_0, .int .i64 a0_1]] rfl wT ?_; (with_reducible refine (impl_okPrefix.calls a0_0 a0_1 false _ A2.out).mono ?_); rintro e w1003 ⟨rfl, hb⟩; refine ⟨_, rfl, ?_⟩; have n0_ := Aside0.mk (blk_below (Bh BK173) hb); have n1_ := Aside0.mk (below_step wB hb); clear BK173; clear HB; have BK173 := n0_; have HB := n1_; clear n0_ n1_; (try clear hb); (try clear hb2); (try clear hk); (try clear hi)))
    go_ret2
    exact ⟨by first | rfl | (simp [errW_none, errW_some] <;> rfl) | (simp [*, errW_none, errW_some] <;> rfl), wB⟩

/-! ### impl_showRoute: function 55 -/
def impl_showRoute.f (k : Nat) (a0_0 : Int) (a0_1 : Int) (a0_2 : Int) (a0_3 : Int) (a0_4 : Int) : Option (ByteArray) := (impl_ShowPrefix.f k a0_0 a0_1).bind fun bt179 => (if a0_2 = 0 then ((strconv_FormatInt.f a0_3 10).bind fun t183 => (if 6 + t183.size ≤ 9223372036854775807 then (if bt179.1.size + ((⟨#[32, 108, 105, 110, 107, 32]⟩ : ByteArray) ++ t183).size ≤ 9223372036854775807 then (if a0_4 = 0 then (some (bt179.1 ++ ((⟨#[32, 108, 105, 110, 107, 32]⟩ : ByteArray) ++ t183))) else ((strconv_FormatInt.f a0_4 10).bind fun t184 => (if 8 + t184.size ≤ 9223372036854775807 then (if (bt179.1 ++ ((⟨#[32, 108, 105, 110, 107, 32]⟩ : ByteArray) ++ t183)).size + ((⟨#[32, 109, 101, 116, 114, 105, 99, 32]⟩ : ByteArray) ++ t184).size ≤ 9223372036854775807 then (some ((bt179.1 ++ ((⟨#[32, 108, 105, 110, 107, 32]⟩ : ByteArray) ++ t183)) ++ ((⟨#[32, 109, 101, 116, 114, 105, 99, 32]⟩ : ByteArray) ++ t184))) else (none)) else (none)))) else (none)) else (none))) else ((impl_ShowAddr.f k a0_2).bind fun bt181 => (if 5 + bt181.1.size ≤ 9223372036854775807 then (if bt179.1.size + ((⟨#[32, 118, 105, 97, 32]⟩ : ByteArray) ++ bt181.1).size ≤ 9223372036854775807 then ((strconv_FormatInt.f a0_3 10).bind fun t185 => (if 6 + t185.size ≤ 9223372036854775807 then (if (bt179.1 ++ ((⟨#[32, 118, 105, 97, 32]⟩ : ByteArray) ++ bt181.1)).size + ((⟨#[32, 108, 105, 110, 107, 32]⟩ : ByteArray) ++ t185).size ≤ 9223372036854775807 then (if a0_4 = 0 then (some ((bt179.1 ++ ((⟨#[32, 118, 105, 97, 32]⟩ : ByteArray) ++ bt181.1)) ++ ((⟨#[32, 108, 105, 110, 107, 32]⟩ : ByteArray) ++ t185))) else ((strconv_FormatInt.f a0_4 10).bind fun t186 => (if 8 + t186.size ≤ 9223372036854775807 then (if ((bt179.1 ++ ((⟨#[32, 118, 105, 97, 32]⟩ : ByteArray) ++ bt181.1)) ++ ((⟨#[32, 108, 105, 110, 107, 32]⟩ : ByteArray) ++ t185)).size + ((⟨#[32, 109, 101, 116, 114, 105, 99, 32]⟩ : ByteArray) ++ t186).size ≤ 9223372036854775807 then (some (((bt179.1 ++ ((⟨#[32, 118, 105, 97, 32]⟩ : ByteArray) ++ bt181.1)) ++ ((⟨#[32, 108, 105, 110, 107, 32]⟩ : ByteArray) ++ t185)) ++ ((⟨#[32, 109, 101, 116, 114, 105, 99, 32]⟩ : ByteArray) ++ t186))) else (none)) else (none)))) else (none)) else (none))) else (none)) else (none))))
theorem impl_showRoute.mono : ∀ a0 a1 a2 a3 a4 k, LeO (impl_showRoute.f k a0 a1 a2 a3 a4) (impl_showRoute.f (k + 1) a0 a1 a2 a3 a4) := by
 intro a0 a1 a2 a3 a4 k
 unfold impl_showRoute.f
 repeat' first
     | (with_reducible exact impl_ShowAddr.mono _ _)
     | (with_reducible exact impl_ShowPrefix.mono _ _ _)
     | (with_reducible exact LeO.refl _)
     | (with_reducible exact LeO.none _)
     | (with_reducible refine LeO.ite ?_ ?_)
     | (with_reducible refine LeO.bind ?_ (fun _ => ?_))
     | exact impl_ShowAddr.mono _ _
     | exact impl_ShowPrefix.mono _ _ _
     | exact LeO.none _
     | refine LeO.ite ?_ ?_
     | refine LeO.bind ?_ (fun _ => ?_)
set_option maxHeartbeats 60000000 in
set_option maxRecDepth 100000 in
theorem impl_showRoute.calls (k : Nat) (a0_0 : Int) (a0_1 : Int) (a0_2 : Int) (a0_3 : Int) (a0_4 : Int) (r : ByteArray) (w : World) (hd : Door w) (h : impl_showRoute.f k a0_0 a0_1 a0_2 a0_3 a0_4 = some r) :
 Calls Tryd.prog 55 #[.agg #[.int .i64 a0_0, .int .i64 a0_1, .int .i64 a0_2, .int .i64 a0_3, .int .i64 a0_4]] w fun e w' => e = .returned (.string r) ∧ Below w.heap.size w w' := by
 have hu74 := Tryd.underlying74
 have hu36 := Tryd.underlying36
 have HD := Aside0.mk hd
 clear hd
 have HB := Aside0.mk (Below.refl w.heap.size w)
 have H : ((impl_ShowPrefix.f k a0_0 a0_1).bind fun bt179 => (if a0_2 = 0 then ((strconv_FormatInt.f a0_3 10).bind fun t183 => (if 6 + t183.size ≤ 9223372036854775807 then (if bt179.1.size + ((⟨#[32, 108, 105, 110, 107, 32]⟩ : ByteArray) ++ t183).size ≤ 9223372036854775807 then (if a0_4 = 0 then (some (bt179.1 ++ ((⟨#[32, 108, 105, 110, 107, 32]⟩ : ByteArray) ++ t183))) else ((strconv_FormatInt.f a0_4 10).bind fun t184 => (if 8 + t184.size ≤ 9223372036854775807 then (if (bt179.1 ++ ((⟨#[32, 108, 105, 110, 107, 32]⟩ : ByteArray) ++ t183)).size + ((⟨#[32, 109, 101, 116, 114, 105, 99, 32]⟩ : ByteArray) ++ t184).size ≤ 9223372036854775807 then (some ((bt179.1 ++ ((⟨#[32, 108, 105, 110, 107, 32]⟩ : ByteArray) ++ t183)) ++ ((⟨#[32, 109, 101, 116, 114, 105, 99, 32]⟩ : ByteArray) ++ t184))) else (none)) else (none)))) else (none)) else (none))) else ((impl_ShowAddr.f k a0_2).bind fun bt181 => (if 5 + bt181.1.size ≤ 9223372036854775807 then (if bt179.1.size + ((⟨#[32, 118, 105, 97, 32]⟩ : ByteArray) ++ bt181.1).size ≤ 9223372036854775807 then ((strconv_FormatInt.f a0_3 10).bind fun t185 => (if 6 + t185.size ≤ 9223372036854775807 then (if (bt179.1 ++ ((⟨#[32, 118, 105, 97, 32]⟩ : ByteArray) ++ bt181.1)).size + ((⟨#[32, 108, 105, 110, 107, 32]⟩ : ByteArray) ++ t185).size ≤ 9223372036854775807 then (if a0_4 = 0 then (some ((bt179.1 ++ ((⟨#[32, 118, 105, 97, 32]⟩ : ByteArray) ++ bt181.1)) ++ ((⟨#[32, 108, 105, 110, 107, 32]⟩ : ByteArray) ++ t185))) else ((strconv_FormatInt.f a0_4 10).bind fun t186 => (if 8 + t186.size ≤ 9223372036854775807 then (if ((bt179.1 ++ ((⟨#[32, 118, 105, 97, 32]⟩ : ByteArray) ++ bt181.1)) ++ ((⟨#[32, 108, 105, 110, 107, 32]⟩ : ByteArray) ++ t185)).size + ((⟨#[32, 109, 101, 116, 114, 105, 99, 32]⟩ : ByteArray) ++ t186).size ≤ 9223372036854775807 then (some (((bt179.1 ++ ((⟨#[32, 118, 105, 97, 32]⟩ : ByteArray) ++ bt181.1)) ++ ((⟨#[32, 108, 105, 110, 107, 32]⟩ : ByteArray) ++ t185)) ++ ((⟨#[32, 109, 101, 116, 114, 105, 99, 32]⟩ : ByteArray) ++ t186))) else (none)) else (none)))) else (none)) else (none))) else (none)) else (none))))) = some r := h
 clear h
 replace H := Option.bind_eq_some_iff.mp H
 obtain ⟨⟨t179, t180⟩, A20, H⟩ := H
 replace H : (if a0_2 = 0 then ((strconv_FormatInt.f a0_3 10).bind fun t183 => (if 6 + t183.size ≤ 9223372036854775807 then (if t179.size + ((⟨#[32, 108, 105, 110, 107, 32]⟩ : ByteArray) ++ t183).size ≤ 9223372036854775807 then (if a0_4 = 0 then (some (t179 ++ ((⟨#[32, 108, 105, 110, 107, 32]⟩ : ByteArray) ++ t183))) else ((strconv_FormatInt.f a0_4 10).bind fun t184 => (if 8 + t184.size ≤ 9223372036854775807 then (if (t179 ++ ((⟨#[32, 108, 105, 110, 107, 32]⟩ : ByteArray) ++ t183)).size + ((⟨#[32, 109, 101, 116, 114, 105, 99, 32]⟩ : ByteArray) ++ t184).size ≤ 9223372036854775807 then (some ((t179 ++ ((⟨#[32, 108, 105, 110, 107, 32]⟩ : ByteArray) ++ t183)) ++ ((⟨#[32, 109, 101, 116, 114, 105, 99, 32]⟩ : ByteArray) ++ t184))) else (none)) else (none)))) else (none)) else (none))) else ((impl_ShowAddr.f k a0_2).bind fun bt181 => (if 5 + bt181.1.size ≤ 9223372036854775807 then (if t179.size + ((⟨#[32, 118, 105, 97, 32]⟩ : ByteArray) ++ bt181.1).size ≤ 9223372036854775807 then ((strconv_FormatInt.f a0_3 10).bind fun t185 => (if 6 + t185.size ≤ 9223372036854775807 then (if (t179 ++ ((⟨#[32, 118, 105, 97, 32]⟩ : ByteArray) ++ bt181.1)).size + ((⟨#[32, 108, 105, 110, 107, 32]⟩ : ByteArray) ++ t185).size ≤ 9223372036854775807 then (if a0_4 = 0 then (some ((t179 ++ ((⟨#[32, 118, 105, 97, 32]⟩ : ByteArray) ++ bt181.1)) ++ ((⟨#[32, 108, 105, 110, 107, 32]⟩ : ByteArray) ++ t185))) else ((strconv_FormatInt.f a0_4 10).bind fun t186 => (if 8 + t186.size ≤ 9223372036854775807 then (if ((t179 ++ ((⟨#[32, 118, 105, 97, 32]⟩ : ByteArray) ++ bt181.1)) ++ ((⟨#[32, 108, 105, 110, 107, 32]⟩ : ByteArray) ++ t185)).size + ((⟨#[32, 109, 101, 116, 114, 105, 99, 32]⟩ : ByteArray) ++ t186).size ≤ 9223372036854775807 then (some (((t179 ++ ((⟨#[32, 118, 105, 97, 32]⟩ : ByteArray) ++ bt181.1)) ++ ((⟨#[32, 108, 105, 110, 107, 32]⟩ : ByteArray) ++ t185)) ++ ((⟨#[32, 109, 101, 116, 114, 105, 99, 32]⟩ : ByteArray) ++ t186))) else (none)) else (none)))) else (none)) else (none))) else (none)) else (none)))) = some r := H
 have A2 := Aside0.mk A20
 clear A20
 by_cases c3 : a0_2 = 0
 rw [if_pos c3] at H
 have c3b0 : (a0_2 == 0) = true := beq_iff_eq.mpr c3
 have c3b1 : (a0_2 != 0) = false := bne_eq_false_iff_eq.mpr c3
 clear c3
 replace H := Option.bind_eq_some_iff.mp H
 obtain ⟨t183, A40, H⟩ := H
 replace H : (if 6 + t183.size ≤ 9223372036854775807 then (if t179.size + ((⟨#[32, 108, 105, 110, 107, 32]⟩ : ByteArray) ++ t183).size ≤ 9223372036854775807 then (if a0_4 = 0 then (some (t179 ++ ((⟨#[32, 108, 105, 110, 107, 32]⟩ : ByteArray) ++ t183))) else ((strconv_FormatInt.f a0_4 10).bind fun t184 => (if 8 + t184.size ≤ 9223372036854775807 then (if (t179 ++ ((⟨#[32, 108, 105, 110, 107, 32]⟩ : ByteArray) ++ t183)).size + ((⟨#[32, 109, 101, 116, 114, 105, 99, 32]⟩ : ByteArray) ++ t184).size ≤ 9223372036854775807 then (some ((t179 ++ ((⟨#[32, 108, 105, 110, 107, 32]⟩ : ByteArray) ++ t183)) ++ ((⟨#[32, 109, 101, 116, 114, 105, 99, 32]⟩ : ByteArray) ++ t184))) else (none)) else (none)))) else (none)) else (none)) = some r := H
 have A4 := Aside0.mk A40
 clear A40
 by_cases c5 : 6 + t183.size ≤ 9223372036854775807
 rw [if_pos c5] at H
 have c5b0 := eq_true c5
 have c5b1 : decide (6 + t183.size ≤ 9223372036854775807) = true := decide_eq_true c5
 try have c5b2 : (9223372036854775807 < 6 + t183.size) = False := eq_false (Nat.not_lt.2 c5)
 by_cases c6 : t179.size + ((⟨#[32, 108, 105, 110, 107, 32]⟩ : ByteArray) ++ t183).size ≤ 9223372036854775807
 rw [if_pos c6] at H
 have c6b0 := eq_true c6
 have c6b1 : decide (t179.size + ((⟨#[32, 108, 105, 110, 107, 32]⟩ : ByteArray) ++ t183).size ≤ 9223372036854775807) = true := decide_eq_true c6
 try have c6b2 : (9223372036854775807 < t179.size + ((⟨#[32, 108, 105, 110, 107, 32]⟩ : ByteArray) ++ t183).size) = False := eq_false (Nat.not_lt.2 c6)
 (try (have c6b5 := c6b2; simp only [ByteArray.size_append, show (⟨#[32, 108, 105, 110, 107, 32]⟩ : ByteArray).size = 6 from rfl] at c6b5))
 by_cases c7 : a0_4 = 0
 rw [if_pos c7] at H
 have c7b0 : (a0_4 == 0) = true := beq_iff_eq.mpr c7
 have c7b1 : (a0_4 != 0) = false := bne_eq_false_iff_eq.mpr c7
 clear c7
 obtain rfl := Option.some.inj H
 rotate_left
 rw [if_neg c7] at H
 have c7b0 : (a0_4 == 0) = false := beq_eq_false_iff_ne.mpr c7
 have c7b1 : (a0_4 != 0) = true := bne_iff_ne.mpr c7
 replace H := Option.bind_eq_some_iff.mp H
 obtain ⟨t184, A80, H⟩ := H
 replace H : (if 8 + t184.size ≤ 9223372036854775807 then (if (t179 ++ ((⟨#[32, 108, 105, 110, 107, 32]⟩ : ByteArray) ++ t183)).size + ((⟨#[32, 109, 101, 116, 114, 105, 99, 32]⟩ : ByteArray) ++ t184).size ≤ 9223372036854775807 then (some ((t179 ++ ((⟨#[32, 108, 105, 110, 107, 32]⟩ : ByteArray) ++ t183)) ++ ((⟨#[32, 109, 101, 116, 114, 105, 99, 32]⟩ : ByteArray) ++ t184))) else (none)) else (none)) = some r := H
 have A8 := Aside0.mk A80
 clear A80
 by_cases c9 : 8 + t184.size ≤ 9223372036854775807
 rw [if_pos c9] at H
 have c9b0 := eq_true c9
 have c9b1 : decide (8 + t184.size ≤ 9223372036854775807) = true := decide_eq_true c9
 try have c9b2 : (9223372036854775807 < 8 + t184.size) = False := eq_false (Nat.not_lt.2 c9)
 by_cases c10 : (t179 ++ ((⟨#[32, 108, 105, 110, 107, 32]⟩ : ByteArray) ++ t183)).size + ((⟨#[32, 109, 101, 116, 114, 105, 99, 32]⟩ : ByteArray) ++ t184).size ≤ 9223372036854775807
 rw [if_pos c10] at H
 have c10b0 := eq_true c10
 have c10b1 : decide ((t179 ++ ((⟨#[32, 108, 105, 110, 107, 32]⟩ : ByteArray) ++ t183)).size + ((⟨#[32, 109, 101, 116, 114, 105, 99, 32]⟩ : ByteArray) ++ t184).size ≤ 9223372036854775807) = true := decide_eq_true c10
 try have c10b2 : (9223372036854775807 < (t179 ++ ((⟨#[32, 108, 105, 110, 107, 32]⟩ : ByteArray) ++ t183)).size + ((⟨#[32, 109, 101, 116, 114, 105, 99, 32]⟩ : ByteArray) ++ t184).size) = False := eq_false (Nat.not_lt.2 c10)
 (try (have c10b5 := c10b2; simp only [ByteArray.size_append, show (⟨#[32, 108, 105, 110, 107, 32]⟩ : ByteArray).size = 6 from rfl, show (⟨#[32, 109, 101, 116, 114, 105, 99, 32]⟩ : ByteArray).size = 8 from rfl] at c10b5))
 obtain rfl := Option.some.inj H
 rotate_left
 rw [if_neg c10] at H
 exact absurd H (by simp)
 rw [if_neg c9] at H
 exact absurd H (by simp)
 rw [if_neg c6] at H
 exact absurd H (by simp)
 rw [if_neg c5] at H
 exact absurd H (by simp)
 rw [if_neg c3] at H
 have c3b0 : (a0_2 == 0) = false := beq_eq_false_iff_ne.mpr c3
 have c3b1 : (a0_2 != 0) = true := bne_iff_ne.mpr c3
 replace H := Option.bind_eq_some_iff.mp H
 obtain ⟨⟨t181, t182⟩, A110, H⟩ := H
 replace H : (if 5 + t181.size ≤ 9223372036854775807 then (if t179.size + ((⟨#[32, 118, 105, 97, 32]⟩ : ByteArray) ++ t181).size ≤ 9223372036854775807 then ((strconv_FormatInt.f a0_3 10).bind fun t185 => (if 6 + t185.size ≤ 9223372036854775807 then (if (t179 ++ ((⟨#[32, 118, 105, 97, 32]⟩ : ByteArray) ++ t181)).size + ((⟨#[32, 108, 105, 110, 107, 32]⟩ : ByteArray) ++ t185).size ≤ 9223372036854775807 then (if a0_4 = 0 then (some ((t179 ++ ((⟨#[32, 118, 105, 97, 32]⟩ : ByteArray) ++ t181)) ++ ((⟨#[32, 108, 105, 110, 107, 32]⟩ : ByteArray) ++ t185))) else ((strconv_FormatInt.f a0_4 10).bind fun t186 => (if 8 + t186.size ≤ 9223372036854775807 then (if ((t179 ++ ((⟨#[32, 118, 105, 97, 32]⟩ : ByteArray) ++ t181)) ++ ((⟨#[32, 108, 105, 110, 107, 32]⟩ : ByteArray) ++ t185)).size + ((⟨#[32, 109, 101, 116, 114, 105, 99, 32]⟩ : ByteArray) ++ t186).size ≤ 9223372036854775807 then (some (((t179 ++ ((⟨#[32, 118, 105, 97, 32]⟩ : ByteArray) ++ t181)) ++ ((⟨#[32, 108, 105, 110, 107, 32]⟩ : ByteArray) ++ t185)) ++ ((⟨#[32, 109, 101, 116, 114, 105, 99, 32]⟩ : ByteArray) ++ t186))) else (none)) else (none)))) else (none)) else (none))) else (none)) else (none)) = some r := H
 have A11 := Aside0.mk A110
 clear A110
 by_cases c12 : 5 + t181.size ≤ 9223372036854775807
 rw [if_pos c12] at H
 have c12b0 := eq_true c12
 have c12b1 : decide (5 + t181.size ≤ 9223372036854775807) = true := decide_eq_true c12
 try have c12b2 : (9223372036854775807 < 5 + t181.size) = False := eq_false (Nat.not_lt.2 c12)
 by_cases c13 : t179.size + ((⟨#[32, 118, 105, 97, 32]⟩ : ByteArray) ++ t181).size ≤ 9223372036854775807
 rw [if_pos c13] at H
 have c13b0 := eq_true c13
 have c13b1 : decide (t179.size + ((⟨#[32, 118, 105, 97, 32]⟩ : ByteArray) ++ t181).size ≤ 9223372036854775807) = true := decide_eq_true c13
 try have c13b2 : (9223372036854775807 < t179.size + ((⟨#[32, 118, 105, 97, 32]⟩ : ByteArray) ++ t181).size) = False := eq_false (Nat.not_lt.2 c13)
 (try (have c13b5 := c13b2; simp only [ByteArray.size_append, show (⟨#[32, 118, 105, 97, 32]⟩ : ByteArray).size = 5 from rfl] at c13b5))
 replace H := Option.bind_eq_some_iff.mp H
 obtain ⟨t185, A140, H⟩ := H
 replace H : (if 6 + t185.size ≤ 9223372036854775807 then (if (t179 ++ ((⟨#[32, 118, 105, 97, 32]⟩ : ByteArray) ++ t181)).size + ((⟨#[32, 108, 105, 110, 107, 32]⟩ : ByteArray) ++ t185).size ≤ 9223372036854775807 then (if a0_4 = 0 then (some ((t179 ++ ((⟨#[32, 118, 105, 97, 32]⟩ : ByteArray) ++ t181)) ++ ((⟨#[32, 108, 105, 110, 107, 32]⟩ : ByteArray) ++ t185))) else ((strconv_FormatInt.f a0_4 10).bind fun t186 => (if 8 + t186.size ≤ 9223372036854775807 then (if ((t179 ++ ((⟨#[32, 118, 105, 97, 32]⟩ : ByteArray) ++ t181)) ++ ((⟨#[32, 108, 105, 110, 107, 32]⟩ : ByteArray) ++ t185)).size + ((⟨#[32, 109, 101, 116, 114, 105, 99, 32]⟩ : ByteArray) ++ t186).size ≤ 9223372036854775807 then (some (((t179 ++ ((⟨#[32, 118, 105, 97, 32]⟩ : ByteArray) ++ t181)) ++ ((⟨#[32, 108, 105, 110, 107, 32]⟩ : ByteArray) ++ t185)) ++ ((⟨#[32, 109, 101, 116, 114, 105, 99, 32]⟩ : ByteArray) ++ t186))) else (none)) else (none)))) else (none)) else (none)) = some r := H
 have A14 := Aside0.mk A140
 clear A140
 by_cases c15 : 6 + t185.size ≤ 9223372036854775807
 rw [if_pos c15] at H
 have c15b0 := eq_true c15
 have c15b1 : decide (6 + t185.size ≤ 9223372036854775807) = true := decide_eq_true c15
 try have c15b2 : (9223372036854775807 < 6 + t185.size) = False := eq_false (Nat.not_lt.2 c15)
 by_cases c16 : (t179 ++ ((⟨#[32, 118, 105, 97, 32]⟩ : ByteArray) ++ t181)).size + ((⟨#[32, 108, 105, 110, 107, 32]⟩ : ByteArray) ++ t185).size ≤ 9223372036854775807
 rw [if_pos c16] at H
 have c16b0 := eq_true c16
 have c16b1 : decide ((t179 ++ ((⟨#[32, 118, 105, 97, 32]⟩ : ByteArray) ++ t181)).size + ((⟨#[32, 108, 105, 110, 107, 32]⟩ : ByteArray) ++ t185).size ≤ 9223372036854775807) = true := decide_eq_true c16
 try have c16b2 : (9223372036854775807 < (t179 ++ ((⟨#[32, 118, 105, 97, 32]⟩ : ByteArray) ++ t181)).size + ((⟨#[32, 108, 105, 110, 107, 32]⟩ : ByteArray) ++ t185).size) = False := eq_false (Nat.not_lt.2 c16)
 (try (have c16b5 := c16b2; simp only [ByteArray.size_append, show (⟨#[32, 108, 105, 110, 107, 32]⟩ : ByteArray).size = 6 from rfl, show (⟨#[32, 118, 105, 97, 32]⟩ : ByteArray).size = 5 from rfl] at c16b5))
 by_cases c17 : a0_4 = 0
 rw [if_pos c17] at H
 have c17b0 : (a0_4 == 0) = true := beq_iff_eq.mpr c17
 have c17b1 : (a0_4 != 0) = false := bne_eq_false_iff_eq.mpr c17
 clear c17
 obtain rfl := Option.some.inj H
 rotate_left
 rw [if_neg c17] at H
 have c17b0 : (a0_4 == 0) = false := beq_eq_false_iff_ne.mpr c17
 have c17b1 : (a0_4 != 0) = true := bne_iff_ne.mpr c17
 replace H := Option.bind_eq_some_iff.mp H
 obtain ⟨t186, A180, H⟩ := H
 replace H : (if 8 + t186.size ≤ 9223372036854775807 then (if ((t179 ++ ((⟨#[32, 118, 105, 97, 32]⟩ : ByteArray) ++ t181)) ++ ((⟨#[32, 108, 105, 110, 107, 32]⟩ : ByteArray) ++ t185)).size + ((⟨#[32, 109, 101, 116, 114, 105, 99, 32]⟩ : ByteArray) ++ t186).size ≤ 9223372036854775807 then (some (((t179 ++ ((⟨#[32, 118, 105, 97, 32]⟩ : ByteArray) ++ t181)) ++ ((⟨#[32, 108, 105, 110, 107, 32]⟩ : ByteArray) ++ t185)) ++ ((⟨#[32, 109, 101, 116, 114, 105, 99, 32]⟩ : ByteArray) ++ t186))) else (none)) else (none)) = some r := H
 have A18 := Aside0.mk A180
 clear A180
 by_cases c19 : 8 + t186.size ≤ 9223372036854775807
 rw [if_pos c19] at H
 have c19b0 := eq_true c19
 have c19b1 : decide (8 + t186.size ≤ 9223372036854775807) = true := decide_eq_true c19
 try have c19b2 : (9223372036854775807 < 8 + t186.size) = False := eq_false (Nat.not_lt.2 c19)
 by_cases c20 : ((t179 ++ ((⟨#[32, 118, 105, 97, 32]⟩ : ByteArray) ++ t181)) ++ ((⟨#[32, 108, 105, 110, 107, 32]⟩ : ByteArray) ++ t185)).size + ((⟨#[32, 109, 101, 116, 114, 105, 99, 32]⟩ : ByteArray) ++ t186).size ≤ 9223372036854775807
 rw [if_pos c20] at H
 have c20b0 := eq_true c20
 have c20b1 : decide (((t179 ++ ((⟨#[32, 118, 105, 97, 32]⟩ : ByteArray) ++ t181)) ++ ((⟨#[32, 108, 105, 110, 107, 32]⟩ : ByteArray) ++ t185)).size + ((⟨#[32, 109, 101, 116, 114, 105, 99, 32]⟩ : ByteArray) ++ t186).size ≤ 9223372036854775807) = true := decide_eq_true c20
 try have c20b2 : (9223372036854775807 < ((t179 ++ ((⟨#[32, 118, 105, 97, 32]⟩ : ByteArray) ++ t181)) ++ ((⟨#[32, 108, 105, 110, 107, 32]⟩ : ByteArray) ++ t185)).size + ((⟨#[32, 109, 101, 116, 114, 105, 99, 32]⟩ : ByteArray) ++ t186).size) = False := eq_false (Nat.not_lt.2 c20)
 (try (have c20b5 := c20b2; simp only [ByteArray.size_append, show (⟨#[32, 108, 105, 110, 107, 32]⟩ : ByteArray).size = 6 from rfl, show (⟨#[32, 109, 101, 116, 114, 105, 99, 32]⟩ : ByteArray).size = 8 from rfl, show (⟨#[32, 118, 105, 97, 32]⟩ : ByteArray).size = 5 from rfl] at c20b5))
 obtain rfl := Option.some.inj H
 rotate_left
 rw [if_neg c20] at H
 exact absurd H (by simp)
 rw [if_neg c19] at H
 exact absurd H (by simp)
 rw [if_neg c16] at H
 exact absurd H (by simp)
 rw [if_neg c15] at H
 exact absurd H (by simp)
 rw [if_neg c13] at H
 exact absurd H (by simp)
 rw [if_neg c12] at H
 exact absurd H (by simp)
 all_goals (
 go_enter Tryd.func55, Tryd.ntmps55
 )
 iterate 2 (
 focus (
 go_wp2_with (first | ((with_reducible refine gate_dst (N := 1) rfl ?_); refine box_event ?hg (N := 1) ?hd (cs := #[.int .i64 a0_0, .int .i64 a0_1, .int .i64 a0_2, .int .i64 a0_3, .int .i64 a0_4]) (t := 74) ?hr ?_; (case hd => rfl); (case hg => rfl); (case hr => first | (go_simp; done) | (go_simp; rfl)); intro gb178 hg w1001 hbox hb; have n0_ := Aside0.mk (below_step wB hb); have n1_ := Aside0.mk (hbox); have n2_ := Aside0.mk ((by rw [hg]; exact (below_size wB) : w.heap.size ≤ gb178)); have n3_ := Aside0.mk ((by rw [hg]; exact (below_size wB) : w.heap.size ≤ gb178)); clear HB; have HB := n0_; have BK178 := n1_; have GW178 := n2_; have GE178 := n3_; clear n0_ n1_ n2_ n3_; clear hb hbox hg; obtain ⟨⟨hcz1002_0, hcz1002_1, hcz1002_2, hcz1002_3, hcz1002_4⟩, hfz1002_0, hfz1002_1, hfz1002_2, hfz1002_3, hfz1002_4⟩ := cells5 BK178.out) | ((with_reducible refine gate_callee (f := 20) rfl ?_); refine goesL_ (some 10) rfl rfl Tryd.func20 (by kernel_rfl) rfl #[.agg #[.int .i64 a0_0, .int .i64 a0_1]] rfl wT ?_; (with_reducible refine (impl_ShowPrefix.calls k a0_0 a0_1 t179 t180 _ ?side1 A2.out).mono ?_); (case side1 => repeat (first | exact (Door.c_below HD.out HB.out) | (with_reducible refine Door.c_alloc ?_ _) | (with_reducible refine Door.c_drewN ?_ _) | (with_reducible refine Door.c_drew ?_))); rintro e w1003 ⟨rfl, hb⟩; refine ⟨_, rfl, ?_⟩; have n0_ := Aside0.mk (blk_below (Bh BK178) hb); have n1_ := Aside0.mk (below_step wB hb); clear BK178; clear HB; have BK178 := n0_; have HB := n1_; clear n0_ n1_; (try clear hb); (try clear hb2); (try clear hk); (try clear hi); obtain ⟨⟨hcz1004_0, hcz1004_1, hcz1004_2, hcz1004_3, hcz1004_4⟩, hfz1004_0, hfz1004_1, hfz1004_2, hfz1004_3, hfz1004_4⟩ := cells5 BK178.out) | ((with_reducible refine gate_callee (f := 34) rfl ?_); refine goesL_ (some 29) rfl rfl Tryd.func34 (by kernel_rfl) rfl #[.int .i64 a0_3, .int .i64 10] rfl wT ?_; (with_reducible refine (strconv_FormatInt.calls a0_3 10 t183 _ ?side1 A4.out).mono ?_); (case side1 => repeat (first | exact (Door.c_below HD.out HB.out) | (with_reducible refine Door.c_alloc ?_ _) | (with_reducible refine Door.c_drewN ?_ _) | (with_reducible refine Door.c_drew ?_))); rintro e w1005 ⟨rfl, hb⟩; refine ⟨_, rfl, ?_⟩; have n0_ := Aside0.mk (blk_below (Bh BK178) hb); have n1_ := Aside0.mk (below_step wB hb); clear BK178; clear HB; have BK178 := n0_; have HB := n1_; clear n0_ n1_; (try clear hb); (try clear hb2); (try clear hk); (try clear hi); obtain ⟨⟨hcz1006_0, hcz1006_1, hcz1006_2, hcz1006_3, hcz1006_4⟩, hfz1006_0, hfz1006_1, hfz1006_2, hfz1006_3, hfz1006_4⟩ := cells5 BK178.out) | ((with_reducible refine gate_callee (f := 34) rfl ?_); refine goesL_ (some 38) rfl rfl Tryd.func34 (by kernel_rfl) rfl #[.int .i64 a0_4, .int .i64 10] rfl wT ?_; (with_reducible refine (strconv_FormatInt.calls a0_4 10 t184 _ ?side1 A8.out).mono ?_); (case side1 => repeat (first | exact (Door.c_below HD.out HB.out) | (with_reducible refine Door.c_alloc ?_ _) | (with_reducible refine Door.c_drewN ?_ _) | (with_reducible refine Door.c_drew ?_))); rintro e w1007 ⟨rfl, hb⟩; refine ⟨_, rfl, ?_⟩; have n0_ := Aside0.mk (blk_below (Bh BK178) hb); have n1_ := Aside0.mk (below_step wB hb); clear BK178; clear HB; have BK178 := n0_; have HB := n1_; clear n0_ n1_; (try clear hb); (try clear hb2); (try clear hk); (try clear hi)))
 go_ret
 exact ⟨by first | rfl | (simp [errW_none, errW_some] <;> rfl) | (simp [*, errW_none, errW_some] <;> rfl), wB⟩
 )
 )
 all_goals (
 go_wp2_with (first | ((with_reducible refine gate_dst (N := 1) rfl ?_); refine box_event ?hg (N := 1) ?hd (cs := #[.int .i64 a0_0, .int .i64 a0_1, .int .i64 a0_2, .int .i64 a0_3, .int .i64 a0_4]) (t := 74) ?hr ?_; (case hd => rfl); (case hg => rfl); (case hr => first | (go_simp; done) | (go_simp; rfl)); intro gb178 hg w1001 hbox hb; have n0_ := Aside0.mk (below_step wB hb); have n1_ := Aside0.mk (hbox); have n2_ := Aside0.mk ((by rw [hg]; exact (below_size wB) : w.heap.size ≤ gb178)); have n3_ := Aside0.mk ((by rw [hg]; exact (below_size wB) : w.heap.size ≤ gb178)); clear HB; have HB := n0_; have BK178 := n1_; have GW178 := n2_; have GE178 := n3_; clear n0_ n1_ n2_ n3_; clear hb hbox hg; obtain ⟨⟨hcz1002_0, hcz1002_1, hcz1002_2, hcz1002_3, hcz1002_4⟩, hfz1002_0, hfz1002_1, hfz1002_2, hfz1002_3, hfz1002_4⟩ := cells5 BK178.out) | ((with_reducible refine gate_callee (f := 20) rfl ?_); refine goesL_ (some 10) rfl rfl Tryd.func20 (by kernel_rfl) rfl #[.agg #[.int .i64 a0_0, .int .i64 a0_1]] rfl wT ?_; (with_reducible refine (impl_ShowPrefix.calls k a0_0 a0_1 t179 t180 _ ?side1 A2.out).mono ?_); (case side1 => repeat (first | exact (Door.c_below HD.out HB.out) | (with_reducible refine Door.c_alloc ?_ _) | (with_reducible refine Door.c_drewN ?_ _) | (with_reducible refine Door.c_drew ?_))); rintro e w1003 ⟨rfl, hb⟩; refine ⟨_, rfl, ?_⟩; have n0_ := Aside0.mk (blk_below (Bh BK178) hb); have n1_ := Aside0.mk (below_step wB hb); clear BK178; clear HB; have BK178 := n0_; have HB := n1_; clear n0_ n1_; (try clear hb); (try clear hb2); (try clear hk); (try clear hi); obtain ⟨⟨hcz1004_0, hcz1004_1, hcz1004_2, hcz1004_3, hcz1004_4⟩, hfz1004_0, hfz1004_1, hfz1004_2, hfz1004_3, hfz1004_4⟩ := cells5 BK178.out) | ((with_reducible refine gate_callee (f := 13) rfl ?_); refine goesL_ (some 19) rfl rfl Tryd.func13 (by kernel_rfl) rfl #[.int .i64 a0_2] rfl wT ?_; (with_reducible refine (impl_ShowAddr.calls k a0_2 t181 t182 _ ?side1 A11.out).mono ?_); (case side1 => repeat (first | exact (Door.c_below HD.out HB.out) | (with_reducible refine Door.c_alloc ?_ _) | (with_reducible refine Door.c_drewN ?_ _) | (with_reducible refine Door.c_drew ?_))); rintro e w1005 ⟨rfl, hb⟩; refine ⟨_, rfl, ?_⟩; have n0_ := Aside0.mk (blk_below (Bh BK178) hb); have n1_ := Aside0.mk (below_step wB hb); clear BK178; clear HB; have BK178 := n0_; have HB := n1_; clear n0_ n1_; (try clear hb); (try clear hb2); (try clear hk); (try clear hi); obtain ⟨⟨hcz1006_0, hcz1006_1, hcz1006_2, hcz1006_3, hcz1006_4⟩, hfz1006_0, hfz1006_1, hfz1006_2, hfz1006_3, hfz1006_4⟩ := cells5 BK178.out) | ((with_reducible refine gate_callee (f := 34) rfl ?_); refine goesL_ (some 29) rfl rfl Tryd.func34 (by kernel_rfl) rfl #[.int .i64 a0_3, .int .i64 10] rfl wT ?_; (with_reducible refine (strconv_FormatInt.calls a0_3 10 t185 _ ?side1 A14.out).mono ?_); (case side1 => repeat (first | exact (Door.c_below HD.out HB.out) | (with_reducible refine Door.c_alloc ?_ _) | (with_reducible refine Door.c_drewN ?_ _) | (with_reducible refine Door.c_drew ?_))); rintro e w1007 ⟨rfl, hb⟩; refine ⟨_, rfl, ?_⟩; have n0_ := Aside0.mk (blk_below (Bh BK178) hb); have n1_ := Aside0.mk (below_step wB hb); clear BK178; clear HB; have BK178 := n0_; have HB := n1_; clear n0_ n1_; (try clear hb); (try clear hb2); (try clear hk); (try clear hi); obtain ⟨⟨hcz1008_0, hcz1008_1, hcz1008_2, hcz1008_3, hcz1008_4⟩, hfz1008_0, hfz1008_1, hfz1008_2, hfz1008_3, hfz1008_4⟩ := cells5 BK178.out) | ((with_reducible refine gate_callee (f := 34) rfl ?_); refine goesL_ (some 38) rfl rfl Tryd.func34 (by kernel_rfl) rfl #[.int .i64 a0_4, .int .i64 10] rfl wT ?_; (with_reducible refine (strconv_FormatInt.calls a0_4 10 t186 _ ?side1 A18.out).mono ?_); (case side1 => repeat (first | exact (Door.c_below HD.out HB.out) | (with_reducible refine Door.c_alloc ?_ _) | (with_reducible refine Door.c_drewN ?_ _) | (with_reducible refine Door.c_drew ?_))); rintro e w1009 ⟨rfl, hb⟩; refine ⟨_, rfl, ?_⟩; have n0_ := Aside0.mk (blk_below (Bh BK178) hb); have n1_ := Aside0.mk (below_step wB hb); clear BK178; clear HB; have BK178 := n0_; have HB := n1_; clear n0_ n1_; (try clear hb); (try clear hb2); (try clear hk); (try clear hi)))
 go_ret
 exact ⟨by first | rfl | (simp [errW_none, errW_some] <;> rfl) | (simp [*, errW_none, errW_some] <;> rfl), wB⟩
 )

end Go.Proofs.YtnnplkhjmdbmbaaDoor.PFnExactShowRoutes
