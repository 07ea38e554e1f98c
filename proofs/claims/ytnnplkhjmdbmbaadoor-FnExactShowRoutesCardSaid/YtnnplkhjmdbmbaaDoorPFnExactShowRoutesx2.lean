-- Written for this claim by a program of this session (wip/mkprint.py: the print, turned at a few places). Not trusted: Lean checks it.
import Derived.Test.YtnnplkhjmdbmbaaDoorPFnExactShowRoutesx0
import Derived.Test.YtnnplkhjmdbmbaaDoorPFnExactShowRoutesx1
namespace Go.Proofs.YtnnplkhjmdbmbaaDoor.PFnExactShowRoutes
open Go.RowKit Go.Proofs.YtnnplkhjmdbmbaaDoorW.PrintWords Go.Proofs.YtnnplkhjmdbmbaaDoorW.PrintLast Go.Proofs.YtnnplkhjmdbmbaaDoorW.PrintMore
attribute [local go_sem] max2_int min2_int max_two min_two max_three min_three max_four min_four   -- for this text's walks alone
set_option linter.unusedVariables false
set_option linter.unusedSimpArgs false

/-! ### spec_AddrKind: function 69 -/
def spec_AddrKind.f (a0 : Int) : Option (Int) := (spec_l02AddrOK.f a0).bind fun t123 => (if t123 = true then (if a0 = 0 then (some 1) else (if (a0 / 16777216) = 127 then (some 2) else (if a0 = 4294967295 then (some 4) else (if (a0 / 268435456) = 14 then (some 3) else (if (a0 / 268435456) = 15 then (some 5) else (some 6)))))) else (some 0))
set_option maxHeartbeats 60000000 in
set_option maxRecDepth 100000 in
theorem spec_AddrKind.calls (a0 : Int) (r : Int) (w : World) (h : spec_AddrKind.f a0 = some r) :
    Calls Tryd.prog 69 #[.int .i64 a0] w fun e w' => e = .returned (.int .i64 r) ∧ Drawn0 w w' := by
  have H : ((spec_l02AddrOK.f a0).bind fun t123 => (if t123 = true then (if a0 = 0 then (some 1) else (if (a0 / 16777216) = 127 then (some 2) else (if a0 = 4294967295 then (some 4) else (if (a0 / 268435456) = 14 then (some 3) else (if (a0 / 268435456) = 15 then (some 5) else (some 6)))))) else (some 0))) = some r := h
  clear h
  replace H := Option.bind_eq_some_iff.mp H
  obtain ⟨t123, A20, H⟩ := H
  replace H : (if t123 = true then (if a0 = 0 then (some 1) else (if (a0 / 16777216) = 127 then (some 2) else (if a0 = 4294967295 then (some 4) else (if (a0 / 268435456) = 14 then (some 3) else (if (a0 / 268435456) = 15 then (some 5) else (some 6)))))) else (some 0)) = some r := H
  have A2 := Aside0.mk A20
  clear A20
  by_cases c3 : t123 = true
  · subst c3
    have H1 : (if a0 = 0 then (some 1) else (if (a0 / 16777216) = 127 then (some 2) else (if a0 = 4294967295 then (some 4) else (if (a0 / 268435456) = 14 then (some 3) else (if (a0 / 268435456) = 15 then (some 5) else (some 6)))))) = some r := by rw [if_pos rfl] at H; exact H
    clear H
    have H := H1
    clear H1
    by_cases c4 : a0 = 0
    · rw [if_pos c4] at H
      have c4b0 : (a0 == 0) = true := beq_iff_eq.mpr c4
      have c4b1 : (a0 != 0) = false := bne_eq_false_iff_eq.mpr c4
      clear c4
      obtain rfl := Option.some.inj H
      go_enter Tryd.func69, Tryd.ntmps69
      go_wp2_with (first | ((with_reducible refine gate_callee (f := 49) rfl ?_); refine goesL_ (some 5) rfl rfl Tryd.func49 (by kernel_rfl) rfl #[.int .i64 a0] rfl wT ?_; (with_reducible refine (spec_l02AddrOK.calls a0 true _ A2.out).mono ?_); rintro e w' ⟨rfl, ⟨nd, rfl⟩⟩; refine ⟨_, rfl, ?_⟩))
      go_ret
      exact ⟨by first | rfl | (simp; done) | (simp [*]; done), by repeat (first | exact Drawn0.refl _ | apply Drawn0.step)⟩
    · rw [if_neg c4] at H
      have c4b0 : (a0 == 0) = false := beq_eq_false_iff_ne.mpr c4
      have c4b1 : (a0 != 0) = true := bne_iff_ne.mpr c4
      by_cases c5 : (a0 / 16777216) = 127
      · rw [if_pos c5] at H
        have c5b0 : ((a0 / 16777216) == 127) = true := beq_iff_eq.mpr c5
        have c5b1 : ((a0 / 16777216) != 127) = false := bne_eq_false_iff_eq.mpr c5
        clear c5
        obtain rfl := Option.some.inj H
        go_enter Tryd.func69, Tryd.ntmps69
        go_wp2_with (first | ((with_reducible refine gate_callee (f := 49) rfl ?_); refine goesL_ (some 5) rfl rfl Tryd.func49 (by kernel_rfl) rfl #[.int .i64 a0] rfl wT ?_; (with_reducible refine (spec_l02AddrOK.calls a0 true _ A2.out).mono ?_); rintro e w' ⟨rfl, ⟨nd, rfl⟩⟩; refine ⟨_, rfl, ?_⟩))
        go_ret
        exact ⟨by first | rfl | (simp; done) | (simp [*]; done), by repeat (first | exact Drawn0.refl _ | apply Drawn0.step)⟩
      · rw [if_neg c5] at H
        have c5b0 : ((a0 / 16777216) == 127) = false := beq_eq_false_iff_ne.mpr c5
        have c5b1 : ((a0 / 16777216) != 127) = true := bne_iff_ne.mpr c5
        by_cases c6 : a0 = 4294967295
        · rw [if_pos c6] at H
          have c6b0 : (a0 == 4294967295) = true := beq_iff_eq.mpr c6
          have c6b1 : (a0 != 4294967295) = false := bne_eq_false_iff_eq.mpr c6
          clear c6
          obtain rfl := Option.some.inj H
          go_enter Tryd.func69, Tryd.ntmps69
          go_wp2_with (first | ((with_reducible refine gate_callee (f := 49) rfl ?_); refine goesL_ (some 5) rfl rfl Tryd.func49 (by kernel_rfl) rfl #[.int .i64 a0] rfl wT ?_; (with_reducible refine (spec_l02AddrOK.calls a0 true _ A2.out).mono ?_); rintro e w' ⟨rfl, ⟨nd, rfl⟩⟩; refine ⟨_, rfl, ?_⟩))
          go_ret
          exact ⟨by first | rfl | (simp; done) | (simp [*]; done), by repeat (first | exact Drawn0.refl _ | apply Drawn0.step)⟩
        · rw [if_neg c6] at H
          have c6b0 : (a0 == 4294967295) = false := beq_eq_false_iff_ne.mpr c6
          have c6b1 : (a0 != 4294967295) = true := bne_iff_ne.mpr c6
          by_cases c7 : (a0 / 268435456) = 14
          · rw [if_pos c7] at H
            have c7b0 : ((a0 / 268435456) == 14) = true := beq_iff_eq.mpr c7
            have c7b1 : ((a0 / 268435456) != 14) = false := bne_eq_false_iff_eq.mpr c7
            clear c7
            obtain rfl := Option.some.inj H
            go_enter Tryd.func69, Tryd.ntmps69
            go_wp2_with (first | ((with_reducible refine gate_callee (f := 49) rfl ?_); refine goesL_ (some 5) rfl rfl Tryd.func49 (by kernel_rfl) rfl #[.int .i64 a0] rfl wT ?_; (with_reducible refine (spec_l02AddrOK.calls a0 true _ A2.out).mono ?_); rintro e w' ⟨rfl, ⟨nd, rfl⟩⟩; refine ⟨_, rfl, ?_⟩))
            go_ret
            exact ⟨by first | rfl | (simp; done) | (simp [*]; done), by repeat (first | exact Drawn0.refl _ | apply Drawn0.step)⟩
          · rw [if_neg c7] at H
            have c7b0 : ((a0 / 268435456) == 14) = false := beq_eq_false_iff_ne.mpr c7
            have c7b1 : ((a0 / 268435456) != 14) = true := bne_iff_ne.mpr c7
            by_cases c8 : (a0 / 268435456) = 15
            · rw [if_pos c8] at H
              have c8b0 : ((a0 / 268435456) == 15) = true := beq_iff_eq.mpr c8
              have c8b1 : ((a0 / 268435456) != 15) = false := bne_eq_false_iff_eq.mpr c8
              clear c8
              obtain rfl := Option.some.inj H
              go_enter Tryd.func69, Tryd.ntmps69
              go_wp2_with (first | ((with_reducible refine gate_callee (f := 49) rfl ?_); refine goesL_ (some 5) rfl rfl Tryd.func49 (by kernel_rfl) rfl #[.int .i64 a0] rfl wT ?_; (with_reducible refine (spec_l02AddrOK.calls a0 true _ A2.out).mono ?_); rintro e w' ⟨rfl, ⟨nd, rfl⟩⟩; refine ⟨_, rfl, ?_⟩))
              go_ret
              exact ⟨by first | rfl | (simp; done) | (simp [*]; done), by repeat (first | exact Drawn0.refl _ | apply Drawn0.step)⟩
            · rw [if_neg c8] at H
              have c8b0 : ((a0 / 268435456) == 15) = false := beq_eq_false_iff_ne.mpr c8
              have c8b1 : ((a0 / 268435456) != 15) = true := bne_iff_ne.mpr c8
              obtain rfl := Option.some.inj H
              go_enter Tryd.func69, Tryd.ntmps69
              go_wp2_with (first | ((with_reducible refine gate_callee (f := 49) rfl ?_); refine goesL_ (some 5) rfl rfl Tryd.func49 (by kernel_rfl) rfl #[.int .i64 a0] rfl wT ?_; (with_reducible refine (spec_l02AddrOK.calls a0 true _ A2.out).mono ?_); rintro e w' ⟨rfl, ⟨nd, rfl⟩⟩; refine ⟨_, rfl, ?_⟩))
              go_ret
              exact ⟨by first | rfl | (simp; done) | (simp [*]; done), by repeat (first | exact Drawn0.refl _ | apply Drawn0.step)⟩
  · replace c3 := Bool.eq_false_iff.mpr c3
    subst c3
    have H1 : (some 0) = some r := by rw [if_neg (show ¬ (false = true) by decide)] at H; exact H
    clear H
    have H := H1
    clear H1
    obtain rfl := Option.some.inj H
    go_enter Tryd.func69, Tryd.ntmps69
    go_wp2_with (first | ((with_reducible refine gate_callee (f := 49) rfl ?_); refine goesL_ (some 5) rfl rfl Tryd.func49 (by kernel_rfl) rfl #[.int .i64 a0] rfl wT ?_; (with_reducible refine (spec_l02AddrOK.calls a0 false _ A2.out).mono ?_); rintro e w' ⟨rfl, ⟨nd, rfl⟩⟩; refine ⟨_, rfl, ?_⟩))
    go_ret
    exact ⟨by first | rfl | (simp; done) | (simp [*]; done), by repeat (first | exact Drawn0.refl _ | apply Drawn0.step)⟩

/-! ### spec_l08OK: function 52 -/
def spec_l08OK.f (k : Nat) (a0_0 : Int) (a0_1 : Int) (a0_2 : Int) (a0_3 : Int) (a0_4 : Int) : Option (Bool) := (spec_l02PrefixOK.f k a0_0 a0_1).bind fun t125 => (if t125 = true then (if a0_2 = 0 then ((spec_l01In.f a0_3 0 7).bind fun t126 => (if t126 = true then ((spec_l01In.f a0_4 0 1000000).bind fun t127 => (some t127)) else (some false))) else ((spec_AddrKind.f a0_2).bind fun t128 => (if t128 = 6 then ((spec_l01In.f a0_3 0 7).bind fun t129 => (if t129 = true then ((spec_l01In.f a0_4 0 1000000).bind fun t130 => (some t130)) else (some false))) else (some false)))) else (some false))
theorem spec_l08OK.mono : ∀ a0 a1 a2 a3 a4 k, LeO (spec_l08OK.f k a0 a1 a2 a3 a4) (spec_l08OK.f (k + 1) a0 a1 a2 a3 a4) := by
  intro a0 a1 a2 a3 a4 k
  unfold spec_l08OK.f
  repeat' first
      | (with_reducible exact spec_l02PrefixOK.mono _ _ _)
      | (with_reducible exact LeO.refl _)
      | (with_reducible exact LeO.none _)
      | (with_reducible refine LeO.ite ?_ ?_)
      | (with_reducible refine LeO.bind ?_ (fun _ => ?_))
      | exact spec_l02PrefixOK.mono _ _ _
      | exact LeO.none _
      | refine LeO.ite ?_ ?_
      | refine LeO.bind ?_ (fun _ => ?_)
set_option maxHeartbeats 60000000 in
set_option maxRecDepth 100000 in
theorem spec_l08OK.calls (k : Nat) (a0_0 : Int) (a0_1 : Int) (a0_2 : Int) (a0_3 : Int) (a0_4 : Int) (r : Bool) (w : World) (h : spec_l08OK.f k a0_0 a0_1 a0_2 a0_3 a0_4 = some r) :
    Calls Tryd.prog 52 #[.agg #[.int .i64 a0_0, .int .i64 a0_1, .int .i64 a0_2, .int .i64 a0_3, .int .i64 a0_4]] w fun e w' => e = .returned (.bool r) ∧ Below w.heap.size w w' := by
  have hu74 := Tryd.underlying74
  have hu36 := Tryd.underlying36
  have HB := Aside0.mk (Below.refl w.heap.size w)
  have H : ((spec_l02PrefixOK.f k a0_0 a0_1).bind fun t125 => (if t125 = true then (if a0_2 = 0 then ((spec_l01In.f a0_3 0 7).bind fun t126 => (if t126 = true then ((spec_l01In.f a0_4 0 1000000).bind fun t127 => (some t127)) else (some false))) else ((spec_AddrKind.f a0_2).bind fun t128 => (if t128 = 6 then ((spec_l01In.f a0_3 0 7).bind fun t129 => (if t129 = true then ((spec_l01In.f a0_4 0 1000000).bind fun t130 => (some t130)) else (some false))) else (some false)))) else (some false))) = some r := h
  clear h
  replace H := Option.bind_eq_some_iff.mp H
  obtain ⟨t125, A20, H⟩ := H
  replace H : (if t125 = true then (if a0_2 = 0 then ((spec_l01In.f a0_3 0 7).bind fun t126 => (if t126 = true then ((spec_l01In.f a0_4 0 1000000).bind fun t127 => (some t127)) else (some false))) else ((spec_AddrKind.f a0_2).bind fun t128 => (if t128 = 6 then ((spec_l01In.f a0_3 0 7).bind fun t129 => (if t129 = true then ((spec_l01In.f a0_4 0 1000000).bind fun t130 => (some t130)) else (some false))) else (some false)))) else (some false)) = some r := H
  have A2 := Aside0.mk A20
  clear A20
  by_cases c3 : t125 = true
  · subst c3
    have H1 : (if a0_2 = 0 then ((spec_l01In.f a0_3 0 7).bind fun t126 => (if t126 = true then ((spec_l01In.f a0_4 0 1000000).bind fun t127 => (some t127)) else (some false))) else ((spec_AddrKind.f a0_2).bind fun t128 => (if t128 = 6 then ((spec_l01In.f a0_3 0 7).bind fun t129 => (if t129 = true then ((spec_l01In.f a0_4 0 1000000).bind fun t130 => (some t130)) else (some false))) else (some false)))) = some r := by rw [if_pos rfl] at H; exact H
    clear H
    have H := H1
    clear H1
    by_cases c4 : a0_2 = 0
    · rw [if_pos c4] at H
      have c4b0 : (a0_2 == 0) = true := beq_iff_eq.mpr c4
      have c4b1 : (a0_2 != 0) = false := bne_eq_false_iff_eq.mpr c4
      clear c4
      replace H := Option.bind_eq_some_iff.mp H
      obtain ⟨t126, A50, H⟩ := H
      replace H : (if t126 = true then ((spec_l01In.f a0_4 0 1000000).bind fun t127 => (some t127)) else (some false)) = some r := H
      have A5 := Aside0.mk A50
      clear A50
      by_cases c6 : t126 = true
      · subst c6
        have H1 : ((spec_l01In.f a0_4 0 1000000).bind fun t127 => (some t127)) = some r := by rw [if_pos rfl] at H; exact H
        clear H
        have H := H1
        clear H1
        replace H := Option.bind_eq_some_iff.mp H
        obtain ⟨t127, A70, H⟩ := H
        replace H : (some t127) = some r := H
        have A7 := Aside0.mk A70
        clear A70
        obtain rfl := Option.some.inj H
        go_enter Tryd.func52, Tryd.ntmps52
        go_wp2_with (first | ((with_reducible refine gate_dst (N := 1) rfl ?_); refine box_event ?hg (N := 1) ?hd (cs := #[.int .i64 a0_0, .int .i64 a0_1, .int .i64 a0_2, .int .i64 a0_3, .int .i64 a0_4]) (t := 74) ?hr ?_; (case hd => rfl); (case hg => rfl); (case hr => first | (go_simp; done) | (go_simp; rfl)); intro gb124 hg w1001 hbox hb; have n0_ := Aside0.mk (below_step wB hb); have n1_ := Aside0.mk (hbox); have n2_ := Aside0.mk ((by rw [hg]; exact (below_size wB) : w.heap.size ≤ gb124)); have n3_ := Aside0.mk ((by rw [hg]; exact (below_size wB) : w.heap.size ≤ gb124)); clear HB; have HB := n0_; have BK124 := n1_; have GW124 := n2_; have GE124 := n3_; clear n0_ n1_ n2_ n3_; clear hb hbox hg; obtain ⟨⟨hcz1002_0, hcz1002_1, hcz1002_2, hcz1002_3, hcz1002_4⟩, hfz1002_0, hfz1002_1, hfz1002_2, hfz1002_3, hfz1002_4⟩ := cells5 BK124.out) | ((with_reducible refine gate_callee (f := 45) rfl ?_); refine goesL_ (some 5) rfl rfl Tryd.func45 (by kernel_rfl) rfl #[.agg #[.int .i64 a0_0, .int .i64 a0_1]] rfl wT ?_; (with_reducible refine (spec_l02PrefixOK.calls k a0_0 a0_1 true _ A2.out).mono ?_); rintro e w1003 ⟨rfl, hb⟩; refine ⟨_, rfl, ?_⟩; have n0_ := Aside0.mk (blk_below (Bh BK124) hb); have n1_ := Aside0.mk (below_step wB hb); clear BK124; clear HB; have BK124 := n0_; have HB := n1_; clear n0_ n1_; (try clear hb); (try clear hb2); (try clear hk); (try clear hi); obtain ⟨⟨hcz1004_0, hcz1004_1, hcz1004_2, hcz1004_3, hcz1004_4⟩, hfz1004_0, hfz1004_1, hfz1004_2, hfz1004_3, hfz1004_4⟩ := cells5 BK124.out) | (go_at_call 66; (with_reducible refine (spec_l01In.calls a0_3 0 7 true _ A5.out).mono ?_); rintro e w' ⟨rfl, ⟨nd, rfl⟩⟩) | (go_at_call 66; (with_reducible refine (spec_l01In.calls a0_4 0 1000000 t127 _ A7.out).mono ?_); rintro e w' ⟨rfl, ⟨nd, rfl⟩⟩))
        all_goals (try (rename_i h_; exfalso; cases h_; done))
        all_goals (try (rename_i h_ h2_; exfalso; cases h_; done))
        go_ret
        exact ⟨by first | rfl | (simp [errW_none, errW_some] <;> rfl) | (simp [*, errW_none, errW_some] <;> rfl), wB⟩
      · replace c6 := Bool.eq_false_iff.mpr c6
        subst c6
        have H1 : (some false) = some r := by rw [if_neg (show ¬ (false = true) by decide)] at H; exact H
        clear H
        have H := H1
        clear H1
        obtain rfl := Option.some.inj H
        go_enter Tryd.func52, Tryd.ntmps52
        go_wp2_with (first | ((with_reducible refine gate_dst (N := 1) rfl ?_); refine box_event ?hg (N := 1) ?hd (cs := #[.int .i64 a0_0, .int .i64 a0_1, .int .i64 a0_2, .int .i64 a0_3, .int .i64 a0_4]) (t := 74) ?hr ?_; (case hd => rfl); (case hg => rfl); (case hr => first | (go_simp; done) | (go_simp; rfl)); intro gb124 hg w1001 hbox hb; have n0_ := Aside0.mk (below_step wB hb); have n1_ := Aside0.mk (hbox); have n2_ := Aside0.mk ((by rw [hg]; exact (below_size wB) : w.heap.size ≤ gb124)); have n3_ := Aside0.mk ((by rw [hg]; exact (below_size wB) : w.heap.size ≤ gb124)); clear HB; have HB := n0_; have BK124 := n1_; have GW124 := n2_; have GE124 := n3_; clear n0_ n1_ n2_ n3_; clear hb hbox hg; obtain ⟨⟨hcz1002_0, hcz1002_1, hcz1002_2, hcz1002_3, hcz1002_4⟩, hfz1002_0, hfz1002_1, hfz1002_2, hfz1002_3, hfz1002_4⟩ := cells5 BK124.out) | ((with_reducible refine gate_callee (f := 45) rfl ?_); refine goesL_ (some 5) rfl rfl Tryd.func45 (by kernel_rfl) rfl #[.agg #[.int .i64 a0_0, .int .i64 a0_1]] rfl wT ?_; (with_reducible refine (spec_l02PrefixOK.calls k a0_0 a0_1 true _ A2.out).mono ?_); rintro e w1003 ⟨rfl, hb⟩; refine ⟨_, rfl, ?_⟩; have n0_ := Aside0.mk (blk_below (Bh BK124) hb); have n1_ := Aside0.mk (below_step wB hb); clear BK124; clear HB; have BK124 := n0_; have HB := n1_; clear n0_ n1_; (try clear hb); (try clear hb2); (try clear hk); (try clear hi); obtain ⟨⟨hcz1004_0, hcz1004_1, hcz1004_2, hcz1004_3, hcz1004_4⟩, hfz1004_0, hfz1004_1, hfz1004_2, hfz1004_3, hfz1004_4⟩ := cells5 BK124.out) | (go_at_call 66; (with_reducible refine (spec_l01In.calls a0_3 0 7 false _ A5.out).mono ?_); rintro e w' ⟨rfl, ⟨nd, rfl⟩⟩))
        all_goals (try (rename_i h_; exfalso; cases h_; done))
        all_goals (try (rename_i h_ h2_; exfalso; cases h_; done))
        go_ret
        exact ⟨by first | rfl | (simp [errW_none, errW_some] <;> rfl) | (simp [*, errW_none, errW_some] <;> rfl), wB⟩
    · rw [if_neg c4] at H
      have c4b0 : (a0_2 == 0) = false := beq_eq_false_iff_ne.mpr c4
      have c4b1 : (a0_2 != 0) = true := bne_iff_ne.mpr c4
      replace H := Option.bind_eq_some_iff.mp H
      obtain ⟨t128, A80, H⟩ := H
      replace H : (if t128 = 6 then ((spec_l01In.f a0_3 0 7).bind fun t129 => (if t129 = true then ((spec_l01In.f a0_4 0 1000000).bind fun t130 => (some t130)) else (some false))) else (some false)) = some r := H
      have A8 := Aside0.mk A80
      clear A80
      by_cases c9 : t128 = 6
      · rw [if_pos c9] at H
        have c9b0 : (t128 == 6) = true := beq_iff_eq.mpr c9
        have c9b1 : (t128 != 6) = false := bne_eq_false_iff_eq.mpr c9
        clear c9
        replace H := Option.bind_eq_some_iff.mp H
        obtain ⟨t129, A100, H⟩ := H
        replace H : (if t129 = true then ((spec_l01In.f a0_4 0 1000000).bind fun t130 => (some t130)) else (some false)) = some r := H
        have A10 := Aside0.mk A100
        clear A100
        by_cases c11 : t129 = true
        · subst c11
          have H1 : ((spec_l01In.f a0_4 0 1000000).bind fun t130 => (some t130)) = some r := by rw [if_pos rfl] at H; exact H
          clear H
          have H := H1
          clear H1
          replace H := Option.bind_eq_some_iff.mp H
          obtain ⟨t130, A120, H⟩ := H
          replace H : (some t130) = some r := H
          have A12 := Aside0.mk A120
          clear A120
          obtain rfl := Option.some.inj H
          go_enter Tryd.func52, Tryd.ntmps52
          go_wp2_with (first | ((with_reducible refine gate_dst (N := 1) rfl ?_); refine box_event ?hg (N := 1) ?hd (cs := #[.int .i64 a0_0, .int .i64 a0_1, .int .i64 a0_2, .int .i64 a0_3, .int .i64 a0_4]) (t := 74) ?hr ?_; (case hd => rfl); (case hg => rfl); (case hr => first | (go_simp; done) | (go_simp; rfl)); intro gb124 hg w1001 hbox hb; have n0_ := Aside0.mk (below_step wB hb); have n1_ := Aside0.mk (hbox); have n2_ := Aside0.mk ((by rw [hg]; exact (below_size wB) : w.heap.size ≤ gb124)); have n3_ := Aside0.mk ((by rw [hg]; exact (below_size wB) : w.heap.size ≤ gb124)); clear HB; have HB := n0_; have BK124 := n1_; have GW124 := n2_; have GE124 := n3_; clear n0_ n1_ n2_ n3_; clear hb hbox hg; obtain ⟨⟨hcz1002_0, hcz1002_1, hcz1002_2, hcz1002_3, hcz1002_4⟩, hfz1002_0, hfz1002_1, hfz1002_2, hfz1002_3, hfz1002_4⟩ := cells5 BK124.out) | ((with_reducible refine gate_callee (f := 45) rfl ?_); refine goesL_ (some 5) rfl rfl Tryd.func45 (by kernel_rfl) rfl #[.agg #[.int .i64 a0_0, .int .i64 a0_1]] rfl wT ?_; (with_reducible refine (spec_l02PrefixOK.calls k a0_0 a0_1 true _ A2.out).mono ?_); rintro e w1003 ⟨rfl, hb⟩; refine ⟨_, rfl, ?_⟩; have n0_ := Aside0.mk (blk_below (Bh BK124) hb); have n1_ := Aside0.mk (below_step wB hb); clear BK124; clear HB; have BK124 := n0_; have HB := n1_; clear n0_ n1_; (try clear hb); (try clear hb2); (try clear hk); (try clear hi); obtain ⟨⟨hcz1004_0, hcz1004_1, hcz1004_2, hcz1004_3, hcz1004_4⟩, hfz1004_0, hfz1004_1, hfz1004_2, hfz1004_3, hfz1004_4⟩ := cells5 BK124.out) | (go_at_call 69; (with_reducible refine (spec_AddrKind.calls a0_2 t128 _ A8.out).mono ?_); rintro e w' ⟨rfl, ⟨nd, rfl⟩⟩) | (go_at_call 66; (with_reducible refine (spec_l01In.calls a0_3 0 7 true _ A10.out).mono ?_); rintro e w' ⟨rfl, ⟨nd, rfl⟩⟩) | (go_at_call 66; (with_reducible refine (spec_l01In.calls a0_4 0 1000000 t130 _ A12.out).mono ?_); rintro e w' ⟨rfl, ⟨nd, rfl⟩⟩))
          all_goals (try (rename_i h_; exfalso; cases h_; done))
          all_goals (try (rename_i h_ h2_; exfalso; cases h_; done))
          go_ret
          exact ⟨by first | rfl | (simp [errW_none, errW_some] <;> rfl) | (simp [*, errW_none, errW_some] <;> rfl), wB⟩
        · replace c11 := Bool.eq_false_iff.mpr c11
          subst c11
          have H1 : (some false) = some r := by rw [if_neg (show ¬ (false = true) by decide)] at H; exact H
          clear H
          have H := H1
          clear H1
          obtain rfl := Option.some.inj H
          go_enter Tryd.func52, Tryd.ntmps52
          go_wp2_with (first | ((with_reducible refine gate_dst (N := 1) rfl ?_); refine box_event ?hg (N := 1) ?hd (cs := #[.int .i64 a0_0, .int .i64 a0_1, .int .i64 a0_2, .int .i64 a0_3, .int .i64 a0_4]) (t := 74) ?hr ?_; (case hd => rfl); (case hg => rfl); (case hr => first | (go_simp; done) | (go_simp; rfl)); intro gb124 hg w1001 hbox hb; have n0_ := Aside0.mk (below_step wB hb); have n1_ := Aside0.mk (hbox); have n2_ := Aside0.mk ((by rw [hg]; exact (below_size wB) : w.heap.size ≤ gb124)); have n3_ := Aside0.mk ((by rw [hg]; exact (below_size wB) : w.heap.size ≤ gb124)); clear HB; have HB := n0_; have BK124 := n1_; have GW124 := n2_; have GE124 := n3_; clear n0_ n1_ n2_ n3_; clear hb hbox hg; obtain ⟨⟨hcz1002_0, hcz1002_1, hcz1002_2, hcz1002_3, hcz1002_4⟩, hfz1002_0, hfz1002_1, hfz1002_2, hfz1002_3, hfz1002_4⟩ := cells5 BK124.out) | ((with_reducible refine gate_callee (f := 45) rfl ?_); refine goesL_ (some 5) rfl rfl Tryd.func45 (by kernel_rfl) rfl #[.agg #[.int .i64 a0_0, .int .i64 a0_1]] rfl wT ?_; (with_reducible refine (spec_l02PrefixOK.calls k a0_0 a0_1 true _ A2.out).mono ?_); rintro e w1003 ⟨rfl, hb⟩; refine ⟨_, rfl, ?_⟩; have n0_ := Aside0.mk (blk_below (Bh BK124) hb); have n1_ := Aside0.mk (below_step wB hb); clear BK124; clear HB; have BK124 := n0_; have HB := n1_; clear n0_ n1_; (try clear hb); (try clear hb2); (try clear hk); (try clear hi); obtain ⟨⟨hcz1004_0, hcz1004_1, hcz1004_2, hcz1004_3, hcz1004_4⟩, hfz1004_0, hfz1004_1, hfz1004_2, hfz1004_3, hfz1004_4⟩ := cells5 BK124.out) | (go_at_call 69; (with_reducible refine (spec_AddrKind.calls a0_2 t128 _ A8.out).mono ?_); rintro e w' ⟨rfl, ⟨nd, rfl⟩⟩) | (go_at_call 66; (with_reducible refine (spec_l01In.calls a0_3 0 7 false _ A10.out).mono ?_); rintro e w' ⟨rfl, ⟨nd, rfl⟩⟩))
          all_goals (try (rename_i h_; exfalso; cases h_; done))
          all_goals (try (rename_i h_ h2_; exfalso; cases h_; done))
          go_ret
          exact ⟨by first | rfl | (simp [errW_none, errW_some] <;> rfl) | (simp [*, errW_none, errW_some] <;> rfl), wB⟩
      · rw [if_neg c9] at H
        have c9b0 : (t128 == 6) = false := beq_eq_false_iff_ne.mpr c9
        have c9b1 : (t128 != 6) = true := bne_iff_ne.mpr c9
        obtain rfl := Option.some.inj H
        go_enter Tryd.func52, Tryd.ntmps52
        go_wp2_with (first | ((with_reducible refine gate_dst (N := 1) rfl ?_); refine box_event ?hg (N := 1) ?hd (cs := #[.int .i64 a0_0, .int .i64 a0_1, .int .i64 a0_2, .int .i64 a0_3, .int .i64 a0_4]) (t := 74) ?hr ?_; (case hd => rfl); (case hg => rfl); (case hr => first | (go_simp; done) | (go_simp; rfl)); intro gb124 hg w1001 hbox hb; have n0_ := Aside0.mk (below_step wB hb); have n1_ := Aside0.mk (hbox); have n2_ := Aside0.mk ((by rw [hg]; exact (below_size wB) : w.heap.size ≤ gb124)); have n3_ := Aside0.mk ((by rw [hg]; exact (below_size wB) : w.heap.size ≤ gb124)); clear HB; have HB := n0_; have BK124 := n1_; have GW124 := n2_; have GE124 := n3_; clear n0_ n1_ n2_ n3_; clear hb hbox hg; obtain ⟨⟨hcz1002_0, hcz1002_1, hcz1002_2, hcz1002_3, hcz1002_4⟩, hfz1002_0, hfz1002_1, hfz1002_2, hfz1002_3, hfz1002_4⟩ := cells5 BK124.out) | ((with_reducible refine gate_callee (f := 45) rfl ?_); refine goesL_ (some 5) rfl rfl Tryd.func45 (by kernel_rfl) rfl #[.agg #[.int .i64 a0_0, .int .i64 a0_1]] rfl wT ?_; (with_reducible refine (spec_l02PrefixOK.calls k a0_0 a0_1 true _ A2.out).mono ?_); rintro e w1003 ⟨rfl, hb⟩; refine ⟨_, rfl, ?_⟩; have n0_ := Aside0.mk (blk_below (Bh BK124) hb); have n1_ := Aside0.mk (below_step wB hb); clear BK124; clear HB; have BK124 := n0_; have HB := n1_; clear n0_ n1_; (try clear hb); (try clear hb2); (try clear hk); (try clear hi); obtain ⟨⟨hcz1004_0, hcz1004_1, hcz1004_2, hcz1004_3, hcz1004_4⟩, hfz1004_0, hfz1004_1, hfz1004_2, hfz1004_3, hfz1004_4⟩ := cells5 BK124.out) | (go_at_call 69; (with_reducible refine (spec_AddrKind.calls a0_2 t128 _ A8.out).mono ?_); rintro e w' ⟨rfl, ⟨nd, rfl⟩⟩))
        all_goals (try (rename_i h_; exfalso; cases h_; done))
        all_goals (try (rename_i h_ h2_; exfalso; cases h_; done))
        go_ret
        exact ⟨by first | rfl | (simp [errW_none, errW_some] <;> rfl) | (simp [*, errW_none, errW_some] <;> rfl), wB⟩
  · replace c3 := Bool.eq_false_iff.mpr c3
    subst c3
    have H1 : (some false) = some r := by rw [if_neg (show ¬ (false = true) by decide)] at H; exact H
    clear H
    have H := H1
    clear H1
    obtain rfl := Option.some.inj H
    go_enter Tryd.func52, Tryd.ntmps52
    go_wp2_with (first | ((with_reducible refine gate_dst (N := 1) rfl ?_); refine box_event ?hg (N := 1) ?hd (cs := #[.int .i64 a0_0, .int .i64 a0_1, .int .i64 a0_2, .int .i64 a0_3, .int .i64 a0_4]) (t := 74) ?hr ?_; (case hd => rfl); (case hg => rfl); (case hr => first | (go_simp; done) | (go_simp; rfl)); intro gb124 hg w1001 hbox hb; have n0_ := Aside0.mk (below_step wB hb); have n1_ := Aside0.mk (hbox); have n2_ := Aside0.mk ((by rw [hg]; exact (below_size wB) : w.heap.size ≤ gb124)); have n3_ := Aside0.mk ((by rw [hg]; exact (below_size wB) : w.heap.size ≤ gb124)); clear HB; have HB := n0_; have BK124 := n1_; have GW124 := n2_; have GE124 := n3_; clear n0_ n1_ n2_ n3_; clear hb hbox hg; obtain ⟨⟨hcz1002_0, hcz1002_1, hcz1002_2, hcz1002_3, hcz1002_4⟩, hfz1002_0, hfz1002_1, hfz1002_2, hfz1002_3, hfz1002_4⟩ := cells5 BK124.out) | ((with_reducible refine gate_callee (f := 45) rfl ?_); refine goesL_ (some 5) rfl rfl Tryd.func45 (by kernel_rfl) rfl #[.agg #[.int .i64 a0_0, .int .i64 a0_1]] rfl wT ?_; (with_reducible refine (spec_l02PrefixOK.calls k a0_0 a0_1 false _ A2.out).mono ?_); rintro e w1003 ⟨rfl, hb⟩; refine ⟨_, rfl, ?_⟩; have n0_ := Aside0.mk (blk_below (Bh BK124) hb); have n1_ := Aside0.mk (below_step wB hb); clear BK124; clear HB; have BK124 := n0_; have HB := n1_; clear n0_ n1_; (try clear hb); (try clear hb2); (try clear hk); (try clear hi)))
    all_goals (try (rename_i h_; exfalso; cases h_; done))
    all_goals (try (rename_i h_ h2_; exfalso; cases h_; done))
    go_ret
    exact ⟨by first | rfl | (simp [errW_none, errW_some] <;> rfl) | (simp [*, errW_none, errW_some] <;> rfl), wB⟩

/-! ### spec_ShowRoutes: function 29 -/
def spec_ShowRoutes.l0 : Nat → List (S74) → ByteArray → Int → Option (ByteArray × Int)
  | 0, _, _, _ => none
  | k + 1, x0, x4, x5 => if x5 < (x0.length : Int) then (if 0 ≤ x5 then ((spec_l08OK.f k ((rd_T74 x0 x5).f0.f0) ((rd_T74 x0 x5).f0.f1) ((rd_T74 x0 x5).f1) ((rd_T74 x0 x5).f2) ((rd_T74 x0 x5).f3)).bind fun t133 => (if t133 = true then ((spec_ShowPrefix.f k ((rd_T74 x0 x5).f0.f0) ((rd_T74 x0 x5).f0.f1)).bind fun bt134 => (if x4.size + bt134.1.size ≤ 9223372036854775807 then (if ((rd_T74 x0 x5).f1) = 0 then (if (x4 ++ bt134.1).size + 6 ≤ 9223372036854775807 then ((spec_l02Dec.f k ((rd_T74 x0 x5).f2)).bind fun t138 => (if ((x4 ++ bt134.1) ++ (⟨#[32, 108, 105, 110, 107, 32]⟩ : ByteArray)).size + t138.size ≤ 9223372036854775807 then (if ((rd_T74 x0 x5).f3) = 0 then (if (((x4 ++ bt134.1) ++ (⟨#[32, 108, 105, 110, 107, 32]⟩ : ByteArray)) ++ t138).size + 1 ≤ 9223372036854775807 then (spec_ShowRoutes.l0 k x0 ((((x4 ++ bt134.1) ++ (⟨#[32, 108, 105, 110, 107, 32]⟩ : ByteArray)) ++ t138) ++ (⟨#[10]⟩ : ByteArray)) (wrap64 (x5 + 1))) else (none)) else (if (((x4 ++ bt134.1) ++ (⟨#[32, 108, 105, 110, 107, 32]⟩ : ByteArray)) ++ t138).size + 8 ≤ 9223372036854775807 then ((spec_l02Dec.f k ((rd_T74 x0 x5).f3)).bind fun t139 => (if ((((x4 ++ bt134.1) ++ (⟨#[32, 108, 105, 110, 107, 32]⟩ : ByteArray)) ++ t138) ++ (⟨#[32, 109, 101, 116, 114, 105, 99, 32]⟩ : ByteArray)).size + t139.size ≤ 9223372036854775807 then (if (((((x4 ++ bt134.1) ++ (⟨#[32, 108, 105, 110, 107, 32]⟩ : ByteArray)) ++ t138) ++ (⟨#[32, 109, 101, 116, 114, 105, 99, 32]⟩ : ByteArray)) ++ t139).size + 1 ≤ 9223372036854775807 then (spec_ShowRoutes.l0 k x0 ((((((x4 ++ bt134.1) ++ (⟨#[32, 108, 105, 110, 107, 32]⟩ : ByteArray)) ++ t138) ++ (⟨#[32, 109, 101, 116, 114, 105, 99, 32]⟩ : ByteArray)) ++ t139) ++ (⟨#[10]⟩ : ByteArray)) (wrap64 (x5 + 1))) else (none)) else (none))) else (none))) else (none))) else (none)) else ((spec_ShowAddr.f k ((rd_T74 x0 x5).f1)).bind fun bt136 => (if (x4 ++ bt134.1).size + 5 ≤ 9223372036854775807 then (if ((x4 ++ bt134.1) ++ (⟨#[32, 118, 105, 97, 32]⟩ : ByteArray)).size + bt136.1.size ≤ 9223372036854775807 then (if (((x4 ++ bt134.1) ++ (⟨#[32, 118, 105, 97, 32]⟩ : ByteArray)) ++ bt136.1).size + 6 ≤ 9223372036854775807 then ((spec_l02Dec.f k ((rd_T74 x0 x5).f2)).bind fun t140 => (if ((((x4 ++ bt134.1) ++ (⟨#[32, 118, 105, 97, 32]⟩ : ByteArray)) ++ bt136.1) ++ (⟨#[32, 108, 105, 110, 107, 32]⟩ : ByteArray)).size + t140.size ≤ 9223372036854775807 then (if ((rd_T74 x0 x5).f3) = 0 then (if (((((x4 ++ bt134.1) ++ (⟨#[32, 118, 105, 97, 32]⟩ : ByteArray)) ++ bt136.1) ++ (⟨#[32, 108, 105, 110, 107, 32]⟩ : ByteArray)) ++ t140).size + 1 ≤ 9223372036854775807 then (spec_ShowRoutes.l0 k x0 ((((((x4 ++ bt134.1) ++ (⟨#[32, 118, 105, 97, 32]⟩ : ByteArray)) ++ bt136.1) ++ (⟨#[32, 108, 105, 110, 107, 32]⟩ : ByteArray)) ++ t140) ++ (⟨#[10]⟩ : ByteArray)) (wrap64 (x5 + 1))) else (none)) else (if (((((x4 ++ bt134.1) ++ (⟨#[32, 118, 105, 97, 32]⟩ : ByteArray)) ++ bt136.1) ++ (⟨#[32, 108, 105, 110, 107, 32]⟩ : ByteArray)) ++ t140).size + 8 ≤ 9223372036854775807 then ((spec_l02Dec.f k ((rd_T74 x0 x5).f3)).bind fun t141 => (if ((((((x4 ++ bt134.1) ++ (⟨#[32, 118, 105, 97, 32]⟩ : ByteArray)) ++ bt136.1) ++ (⟨#[32, 108, 105, 110, 107, 32]⟩ : ByteArray)) ++ t140) ++ (⟨#[32, 109, 101, 116, 114, 105, 99, 32]⟩ : ByteArray)).size + t141.size ≤ 9223372036854775807 then (if (((((((x4 ++ bt134.1) ++ (⟨#[32, 118, 105, 97, 32]⟩ : ByteArray)) ++ bt136.1) ++ (⟨#[32, 108, 105, 110, 107, 32]⟩ : ByteArray)) ++ t140) ++ (⟨#[32, 109, 101, 116, 114, 105, 99, 32]⟩ : ByteArray)) ++ t141).size + 1 ≤ 9223372036854775807 then (spec_ShowRoutes.l0 k x0 ((((((((x4 ++ bt134.1) ++ (⟨#[32, 118, 105, 97, 32]⟩ : ByteArray)) ++ bt136.1) ++ (⟨#[32, 108, 105, 110, 107, 32]⟩ : ByteArray)) ++ t140) ++ (⟨#[32, 109, 101, 116, 114, 105, 99, 32]⟩ : ByteArray)) ++ t141) ++ (⟨#[10]⟩ : ByteArray)) (wrap64 (x5 + 1))) else (none)) else (none))) else (none))) else (none))) else (none)) else (none)) else (none)))) else (none))) else (some ((⟨#[]⟩ : ByteArray), 1)))) else (none)) else (some (x4, 0))
def spec_ShowRoutes.f (k : Nat) (l0 : List (S74)) : Option (ByteArray × Int) := if (l0.length : Int) > 64 then (some ((⟨#[]⟩ : ByteArray), 8)) else (spec_ShowRoutes.l0 k l0 (⟨#[]⟩ : ByteArray) 0)
theorem spec_ShowRoutes.mono_l : ∀ k, (∀ y0 y1 y2, LeO (spec_ShowRoutes.l0 k y0 y1 y2) (spec_ShowRoutes.l0 (k + 1) y0 y1 y2))
  | 0 => fun _ _ _ r h => by simp [spec_ShowRoutes.l0] at h
  | k + 1 => by
    have ih0 := spec_ShowRoutes.mono_l k
    · intro y0 y1 y2
      unfold spec_ShowRoutes.l0
      repeat' first
      | (with_reducible exact ih0 _ _ _)
      | (with_reducible exact spec_ShowAddr.mono _ _)
      | (with_reducible exact spec_ShowPrefix.mono _ _ _)
      | (with_reducible exact spec_l02Dec.mono _ _)
      | (with_reducible exact spec_l08OK.mono _ _ _ _ _ _)
      | (with_reducible exact LeO.refl _)
      | (with_reducible exact LeO.none _)
      | (with_reducible refine LeO.ite ?_ ?_)
      | (with_reducible refine LeO.bind ?_ (fun _ => ?_))
      | exact ih0 _ _ _
      | exact spec_ShowAddr.mono _ _
      | exact spec_ShowPrefix.mono _ _ _
      | exact spec_l02Dec.mono _ _
      | exact spec_l08OK.mono _ _ _ _ _ _
      | exact LeO.none _
      | refine LeO.ite ?_ ?_
      | refine LeO.bind ?_ (fun _ => ?_)
theorem spec_ShowRoutes.mono : ∀ a0 k, LeO (spec_ShowRoutes.f k a0) (spec_ShowRoutes.f (k + 1) a0) := by
 intro a0 k
 have ih0 := spec_ShowRoutes.mono_l k
 unfold spec_ShowRoutes.f
 repeat' first
     | (with_reducible exact ih0 _ _ _)
     | (with_reducible exact spec_ShowAddr.mono _ _)
     | (with_reducible exact spec_ShowPrefix.mono _ _ _)
     | (with_reducible exact spec_l02Dec.mono _ _)
     | (with_reducible exact spec_l08OK.mono _ _ _ _ _ _)
     | (with_reducible exact LeO.refl _)
     | (with_reducible exact LeO.none _)
     | (with_reducible refine LeO.ite ?_ ?_)
     | (with_reducible refine LeO.bind ?_ (fun _ => ?_))
     | exact ih0 _ _ _
     | exact spec_ShowAddr.mono _ _
     | exact spec_ShowPrefix.mono _ _ _
     | exact spec_l02Dec.mono _ _
     | exact spec_l08OK.mono _ _ _ _ _ _
     | exact LeO.none _
     | refine LeO.ite ?_ ?_
     | refine LeO.bind ?_ (fun _ => ?_)
set_option maxHeartbeats 60000000 in
set_option maxRecDepth 100000 in
theorem spec_ShowRoutes.calls (k : Nat) (A0 : Option Addr) (c0 : Nat) (l0 : List (S74)) (r1 : ByteArray) (r2 : Int) (w : World) (hr0 : Kd.C k74 w A0 l0.length l0) (hc0 : l0.length ≤ c0) (h : spec_ShowRoutes.f k l0 = some (r1, r2)) :
 Calls Tryd.prog 29 #[.slice A0 l0.length c0] w fun e w' => e = .returned (.tuple #[.string r1, .int .i64 r2]) ∧ Below w.heap.size w w' := by
 have hu74 := Tryd.underlying74
 have hu36 := Tryd.underlying36
 have HR0 := Aside0.mk hr0
 have HC0 := Aside0.mk hc0
 clear hr0 hc0
 have HB := Aside0.mk (Below.refl w.heap.size w)
 have H : (if (l0.length : Int) > 64 then (some ((⟨#[]⟩ : ByteArray), 8)) else (spec_ShowRoutes.l0 k l0 (⟨#[]⟩ : ByteArray) 0)) = some (r1, r2) := h
 clear h
 by_cases c2 : (l0.length : Int) > 64
 {
 rw [if_pos c2] at H
 have c2b0 : decide (64 < (l0.length : Int)) = true := decide_eq_true c2
 have c2b1 : decide (64 < l0.length) = true := decide_eq_true (by omega)
 clear c2
 simp only [Option.some.injEq, Prod.mk.injEq] at H
 obtain ⟨rfl, rfl⟩ := H
 go_enter Tryd.func29, Tryd.ntmps29
 go_wp2
 go_ret2
 exact ⟨by first | rfl | (simp [errW_none, errW_some] <;> rfl) | (simp [*, errW_none, errW_some] <;> rfl), wB⟩
 }
 {
 rw [if_neg c2] at H
 have c2b0 : decide (64 < (l0.length : Int)) = false := decide_eq_false c2
 have c2b1 : decide (64 < l0.length) = false := decide_eq_false (by omega)
 clear c2
 have H' := Aside0.mk H
 clear H
 go_enter Tryd.func29, Tryd.ntmps29
 go_wp2
 go_loopg [4, 5] k (fun kq v4 v5 w' => ∃ (x4_1 : ByteArray) (x5_1 : Int), v4 = .string x4_1 ∧ v5 = .int .i64 x5_1 ∧ Aside0 (spec_ShowRoutes.l0 kq l0 x4_1 x5_1 = some (r1, r2)) ∧ Aside0 (kq ≤ k) ∧ Aside0 (Below w.heap.size w w'))
 case atStart => exact ⟨((⟨#[]⟩ : ByteArray)), (0), (by first | rfl | (simp; done) | (simp [*]; done)), (by first | rfl | (simp; done) | (simp [*]; done)), H', ⟨Nat.le_refl _⟩, ⟨wB⟩⟩
 case round => (
 clear H'
 try clear c2
 try clear c2b0
 try clear c2b1
 try clear p2
 obtain ⟨x4_1, x5_1, rfl, rfl, HA, HK1, HB⟩ := hrel
 cases gk with
 | zero => exact absurd HA.out (by simp [spec_ShowRoutes.l0])
 | succ k1 => {
 have H := HA.out
 clear HA
 simp only [spec_ShowRoutes.l0] at H
 by_cases c1001 : x5_1 < (l0.length : Int)
 rw [if_pos c1001] at H
 have c1001b0 : decide (x5_1 < (l0.length : Int)) = true := decide_eq_true c1001
 clear c1001
 by_cases c1002 : 0 ≤ x5_1
 rw [if_pos c1002] at H
 have c1002b0 : decide (0 ≤ x5_1) = true := decide_eq_true c1002
 clear c1002
 replace H := Option.bind_eq_some_iff.mp H
 obtain ⟨t133, A10030, H⟩ := H
 replace H : (if t133 = true then ((spec_ShowPrefix.f k1 ((rd_T74 l0 x5_1).f0.f0) ((rd_T74 l0 x5_1).f0.f1)).bind fun bt134 => (if x4_1.size + bt134.1.size ≤ 9223372036854775807 then (if ((rd_T74 l0 x5_1).f1) = 0 then (if (x4_1 ++ bt134.1).size + 6 ≤ 9223372036854775807 then ((spec_l02Dec.f k1 ((rd_T74 l0 x5_1).f2)).bind fun t138 => (if ((x4_1 ++ bt134.1) ++ (⟨#[32, 108, 105, 110, 107, 32]⟩ : ByteArray)).size + t138.size ≤ 9223372036854775807 then (if ((rd_T74 l0 x5_1).f3) = 0 then (if (((x4_1 ++ bt134.1) ++ (⟨#[32, 108, 105, 110, 107, 32]⟩ : ByteArray)) ++ t138).size + 1 ≤ 9223372036854775807 then (spec_ShowRoutes.l0 k1 l0 ((((x4_1 ++ bt134.1) ++ (⟨#[32, 108, 105, 110, 107, 32]⟩ : ByteArray)) ++ t138) ++ (⟨#[10]⟩ : ByteArray)) (wrap64 (x5_1 + 1))) else (none)) else (if (((x4_1 ++ bt134.1) ++ (⟨#[32, 108, 105, 110, 107, 32]⟩ : ByteArray)) ++ t138).size + 8 ≤ 9223372036854775807 then ((spec_l02Dec.f k1 ((rd_T74 l0 x5_1).f3)).bind fun t139 => (if ((((x4_1 ++ bt134.1) ++ (⟨#[32, 108, 105, 110, 107, 32]⟩ : ByteArray)) ++ t138) ++ (⟨#[32, 109, 101, 116, 114, 105, 99, 32]⟩ : ByteArray)).size + t139.size ≤ 9223372036854775807 then (if (((((x4_1 ++ bt134.1) ++ (⟨#[32, 108, 105, 110, 107, 32]⟩ : ByteArray)) ++ t138) ++ (⟨#[32, 109, 101, 116, 114, 105, 99, 32]⟩ : ByteArray)) ++ t139).size + 1 ≤ 9223372036854775807 then (spec_ShowRoutes.l0 k1 l0 ((((((x4_1 ++ bt134.1) ++ (⟨#[32, 108, 105, 110, 107, 32]⟩ : ByteArray)) ++ t138) ++ (⟨#[32, 109, 101, 116, 114, 105, 99, 32]⟩ : ByteArray)) ++ t139) ++ (⟨#[10]⟩ : ByteArray)) (wrap64 (x5_1 + 1))) else (none)) else (none))) else (none))) else (none))) else (none)) else ((spec_ShowAddr.f k1 ((rd_T74 l0 x5_1).f1)).bind fun bt136 => (if (x4_1 ++ bt134.1).size + 5 ≤ 9223372036854775807 then (if ((x4_1 ++ bt134.1) ++ (⟨#[32, 118, 105, 97, 32]⟩ : ByteArray)).size + bt136.1.size ≤ 9223372036854775807 then (if (((x4_1 ++ bt134.1) ++ (⟨#[32, 118, 105, 97, 32]⟩ : ByteArray)) ++ bt136.1).size + 6 ≤ 9223372036854775807 then ((spec_l02Dec.f k1 ((rd_T74 l0 x5_1).f2)).bind fun t140 => (if ((((x4_1 ++ bt134.1) ++ (⟨#[32, 118, 105, 97, 32]⟩ : ByteArray)) ++ bt136.1) ++ (⟨#[32, 108, 105, 110, 107, 32]⟩ : ByteArray)).size + t140.size ≤ 9223372036854775807 then (if ((rd_T74 l0 x5_1).f3) = 0 then (if (((((x4_1 ++ bt134.1) ++ (⟨#[32, 118, 105, 97, 32]⟩ : ByteArray)) ++ bt136.1) ++ (⟨#[32, 108, 105, 110, 107, 32]⟩ : ByteArray)) ++ t140).size + 1 ≤ 9223372036854775807 then (spec_ShowRoutes.l0 k1 l0 ((((((x4_1 ++ bt134.1) ++ (⟨#[32, 118, 105, 97, 32]⟩ : ByteArray)) ++ bt136.1) ++ (⟨#[32, 108, 105, 110, 107, 32]⟩ : ByteArray)) ++ t140) ++ (⟨#[10]⟩ : ByteArray)) (wrap64 (x5_1 + 1))) else (none)) else (if (((((x4_1 ++ bt134.1) ++ (⟨#[32, 118, 105, 97, 32]⟩ : ByteArray)) ++ bt136.1) ++ (⟨#[32, 108, 105, 110, 107, 32]⟩ : ByteArray)) ++ t140).size + 8 ≤ 9223372036854775807 then ((spec_l02Dec.f k1 ((rd_T74 l0 x5_1).f3)).bind fun t141 => (if ((((((x4_1 ++ bt134.1) ++ (⟨#[32, 118, 105, 97, 32]⟩ : ByteArray)) ++ bt136.1) ++ (⟨#[32, 108, 105, 110, 107, 32]⟩ : ByteArray)) ++ t140) ++ (⟨#[32, 109, 101, 116, 114, 105, 99, 32]⟩ : ByteArray)).size + t141.size ≤ 9223372036854775807 then (if (((((((x4_1 ++ bt134.1) ++ (⟨#[32, 118, 105, 97, 32]⟩ : ByteArray)) ++ bt136.1) ++ (⟨#[32, 108, 105, 110, 107, 32]⟩ : ByteArray)) ++ t140) ++ (⟨#[32, 109, 101, 116, 114, 105, 99, 32]⟩ : ByteArray)) ++ t141).size + 1 ≤ 9223372036854775807 then (spec_ShowRoutes.l0 k1 l0 ((((((((x4_1 ++ bt134.1) ++ (⟨#[32, 118, 105, 97, 32]⟩ : ByteArray)) ++ bt136.1) ++ (⟨#[32, 108, 105, 110, 107, 32]⟩ : ByteArray)) ++ t140) ++ (⟨#[32, 109, 101, 116, 114, 105, 99, 32]⟩ : ByteArray)) ++ t141) ++ (⟨#[10]⟩ : ByteArray)) (wrap64 (x5_1 + 1))) else (none)) else (none))) else (none))) else (none))) else (none)) else (none)) else (none)))) else (none))) else (some ((⟨#[]⟩ : ByteArray), 1))) = some (r1, r2) := H
 have A1003 := Aside0.mk A10030
 clear A10030
 by_cases c1004 : t133 = true
 subst c1004
 have H1 : ((spec_ShowPrefix.f k1 ((rd_T74 l0 x5_1).f0.f0) ((rd_T74 l0 x5_1).f0.f1)).bind fun bt134 => (if x4_1.size + bt134.1.size ≤ 9223372036854775807 then (if ((rd_T74 l0 x5_1).f1) = 0 then (if (x4_1 ++ bt134.1).size + 6 ≤ 9223372036854775807 then ((spec_l02Dec.f k1 ((rd_T74 l0 x5_1).f2)).bind fun t138 => (if ((x4_1 ++ bt134.1) ++ (⟨#[32, 108, 105, 110, 107, 32]⟩ : ByteArray)).size + t138.size ≤ 9223372036854775807 then (if ((rd_T74 l0 x5_1).f3) = 0 then (if (((x4_1 ++ bt134.1) ++ (⟨#[32, 108, 105, 110, 107, 32]⟩ : ByteArray)) ++ t138).size + 1 ≤ 9223372036854775807 then (spec_ShowRoutes.l0 k1 l0 ((((x4_1 ++ bt134.1) ++ (⟨#[32, 108, 105, 110, 107, 32]⟩ : ByteArray)) ++ t138) ++ (⟨#[10]⟩ : ByteArray)) (wrap64 (x5_1 + 1))) else (none)) else (if (((x4_1 ++ bt134.1) ++ (⟨#[32, 108, 105, 110, 107, 32]⟩ : ByteArray)) ++ t138).size + 8 ≤ 9223372036854775807 then ((spec_l02Dec.f k1 ((rd_T74 l0 x5_1).f3)).bind fun t139 => (if ((((x4_1 ++ bt134.1) ++ (⟨#[32, 108, 105, 110, 107, 32]⟩ : ByteArray)) ++ t138) ++ (⟨#[32, 109, 101, 116, 114, 105, 99, 32]⟩ : ByteArray)).size + t139.size ≤ 9223372036854775807 then (if (((((x4_1 ++ bt134.1) ++ (⟨#[32, 108, 105, 110, 107, 32]⟩ : ByteArray)) ++ t138) ++ (⟨#[32, 109, 101, 116, 114, 105, 99, 32]⟩ : ByteArray)) ++ t139).size + 1 ≤ 9223372036854775807 then (spec_ShowRoutes.l0 k1 l0 ((((((x4_1 ++ bt134.1) ++ (⟨#[32, 108, 105, 110, 107, 32]⟩ : ByteArray)) ++ t138) ++ (⟨#[32, 109, 101, 116, 114, 105, 99, 32]⟩ : ByteArray)) ++ t139) ++ (⟨#[10]⟩ : ByteArray)) (wrap64 (x5_1 + 1))) else (none)) else (none))) else (none))) else (none))) else (none)) else ((spec_ShowAddr.f k1 ((rd_T74 l0 x5_1).f1)).bind fun bt136 => (if (x4_1 ++ bt134.1).size + 5 ≤ 9223372036854775807 then (if ((x4_1 ++ bt134.1) ++ (⟨#[32, 118, 105, 97, 32]⟩ : ByteArray)).size + bt136.1.size ≤ 9223372036854775807 then (if (((x4_1 ++ bt134.1) ++ (⟨#[32, 118, 105, 97, 32]⟩ : ByteArray)) ++ bt136.1).size + 6 ≤ 9223372036854775807 then ((spec_l02Dec.f k1 ((rd_T74 l0 x5_1).f2)).bind fun t140 => (if ((((x4_1 ++ bt134.1) ++ (⟨#[32, 118, 105, 97, 32]⟩ : ByteArray)) ++ bt136.1) ++ (⟨#[32, 108, 105, 110, 107, 32]⟩ : ByteArray)).size + t140.size ≤ 9223372036854775807 then (if ((rd_T74 l0 x5_1).f3) = 0 then (if (((((x4_1 ++ bt134.1) ++ (⟨#[32, 118, 105, 97, 32]⟩ : ByteArray)) ++ bt136.1) ++ (⟨#[32, 108, 105, 110, 107, 32]⟩ : ByteArray)) ++ t140).size + 1 ≤ 9223372036854775807 then (spec_ShowRoutes.l0 k1 l0 ((((((x4_1 ++ bt134.1) ++ (⟨#[32, 118, 105, 97, 32]⟩ : ByteArray)) ++ bt136.1) ++ (⟨#[32, 108, 105, 110, 107, 32]⟩ : ByteArray)) ++ t140) ++ (⟨#[10]⟩ : ByteArray)) (wrap64 (x5_1 + 1))) else (none)) else (if (((((x4_1 ++ bt134.1) ++ (⟨#[32, 118, 105, 97, 32]⟩ : ByteArray)) ++ bt136.1) ++ (⟨#[32, 108, 105, 110, 107, 32]⟩ : ByteArray)) ++ t140).size + 8 ≤ 9223372036854775807 then ((spec_l02Dec.f k1 ((rd_T74 l0 x5_1).f3)).bind fun t141 => (if ((((((x4_1 ++ bt134.1) ++ (⟨#[32, 118, 105, 97, 32]⟩ : ByteArray)) ++ bt136.1) ++ (⟨#[32, 108, 105, 110, 107, 32]⟩ : ByteArray)) ++ t140) ++ (⟨#[32, 109, 101, 116, 114, 105, 99, 32]⟩ : ByteArray)).size + t141.size ≤ 9223372036854775807 then (if (((((((x4_1 ++ bt134.1) ++ (⟨#[32, 118, 105, 97, 32]⟩ : ByteArray)) ++ bt136.1) ++ (⟨#[32, 108, 105, 110, 107, 32]⟩ : ByteArray)) ++ t140) ++ (⟨#[32, 109, 101, 116, 114, 105, 99, 32]⟩ : ByteArray)) ++ t141).size + 1 ≤ 9223372036854775807 then (spec_ShowRoutes.l0 k1 l0 ((((((((x4_1 ++ bt134.1) ++ (⟨#[32, 118, 105, 97, 32]⟩ : ByteArray)) ++ bt136.1) ++ (⟨#[32, 108, 105, 110, 107, 32]⟩ : ByteArray)) ++ t140) ++ (⟨#[32, 109, 101, 116, 114, 105, 99, 32]⟩ : ByteArray)) ++ t141) ++ (⟨#[10]⟩ : ByteArray)) (wrap64 (x5_1 + 1))) else (none)) else (none))) else (none))) else (none))) else (none)) else (none)) else (none)))) else (none))) = some (r1, r2) := by rw [if_pos rfl] at H; exact H
 clear H
 have H := H1
 clear H1
 replace H := Option.bind_eq_some_iff.mp H
 obtain ⟨⟨t134, t135⟩, A10050, H⟩ := H
 replace H : (if x4_1.size + t134.size ≤ 9223372036854775807 then (if ((rd_T74 l0 x5_1).f1) = 0 then (if (x4_1 ++ t134).size + 6 ≤ 9223372036854775807 then ((spec_l02Dec.f k1 ((rd_T74 l0 x5_1).f2)).bind fun t138 => (if ((x4_1 ++ t134) ++ (⟨#[32, 108, 105, 110, 107, 32]⟩ : ByteArray)).size + t138.size ≤ 9223372036854775807 then (if ((rd_T74 l0 x5_1).f3) = 0 then (if (((x4_1 ++ t134) ++ (⟨#[32, 108, 105, 110, 107, 32]⟩ : ByteArray)) ++ t138).size + 1 ≤ 9223372036854775807 then (spec_ShowRoutes.l0 k1 l0 ((((x4_1 ++ t134) ++ (⟨#[32, 108, 105, 110, 107, 32]⟩ : ByteArray)) ++ t138) ++ (⟨#[10]⟩ : ByteArray)) (wrap64 (x5_1 + 1))) else (none)) else (if (((x4_1 ++ t134) ++ (⟨#[32, 108, 105, 110, 107, 32]⟩ : ByteArray)) ++ t138).size + 8 ≤ 9223372036854775807 then ((spec_l02Dec.f k1 ((rd_T74 l0 x5_1).f3)).bind fun t139 => (if ((((x4_1 ++ t134) ++ (⟨#[32, 108, 105, 110, 107, 32]⟩ : ByteArray)) ++ t138) ++ (⟨#[32, 109, 101, 116, 114, 105, 99, 32]⟩ : ByteArray)).size + t139.size ≤ 9223372036854775807 then (if (((((x4_1 ++ t134) ++ (⟨#[32, 108, 105, 110, 107, 32]⟩ : ByteArray)) ++ t138) ++ (⟨#[32, 109, 101, 116, 114, 105, 99, 32]⟩ : ByteArray)) ++ t139).size + 1 ≤ 9223372036854775807 then (spec_ShowRoutes.l0 k1 l0 ((((((x4_1 ++ t134) ++ (⟨#[32, 108, 105, 110, 107, 32]⟩ : ByteArray)) ++ t138) ++ (⟨#[32, 109, 101, 116, 114, 105, 99, 32]⟩ : ByteArray)) ++ t139) ++ (⟨#[10]⟩ : ByteArray)) (wrap64 (x5_1 + 1))) else (none)) else (none))) else (none))) else (none))) else (none)) else ((spec_ShowAddr.f k1 ((rd_T74 l0 x5_1).f1)).bind fun bt136 => (if (x4_1 ++ t134).size + 5 ≤ 9223372036854775807 then (if ((x4_1 ++ t134) ++ (⟨#[32, 118, 105, 97, 32]⟩ : ByteArray)).size + bt136.1.size ≤ 9223372036854775807 then (if (((x4_1 ++ t134) ++ (⟨#[32, 118, 105, 97, 32]⟩ : ByteArray)) ++ bt136.1).size + 6 ≤ 9223372036854775807 then ((spec_l02Dec.f k1 ((rd_T74 l0 x5_1).f2)).bind fun t140 => (if ((((x4_1 ++ t134) ++ (⟨#[32, 118, 105, 97, 32]⟩ : ByteArray)) ++ bt136.1) ++ (⟨#[32, 108, 105, 110, 107, 32]⟩ : ByteArray)).size + t140.size ≤ 9223372036854775807 then (if ((rd_T74 l0 x5_1).f3) = 0 then (if (((((x4_1 ++ t134) ++ (⟨#[32, 118, 105, 97, 32]⟩ : ByteArray)) ++ bt136.1) ++ (⟨#[32, 108, 105, 110, 107, 32]⟩ : ByteArray)) ++ t140).size + 1 ≤ 9223372036854775807 then (spec_ShowRoutes.l0 k1 l0 ((((((x4_1 ++ t134) ++ (⟨#[32, 118, 105, 97, 32]⟩ : ByteArray)) ++ bt136.1) ++ (⟨#[32, 108, 105, 110, 107, 32]⟩ : ByteArray)) ++ t140) ++ (⟨#[10]⟩ : ByteArray)) (wrap64 (x5_1 + 1))) else (none)) else (if (((((x4_1 ++ t134) ++ (⟨#[32, 118, 105, 97, 32]⟩ : ByteArray)) ++ bt136.1) ++ (⟨#[32, 108, 105, 110, 107, 32]⟩ : ByteArray)) ++ t140).size + 8 ≤ 9223372036854775807 then ((spec_l02Dec.f k1 ((rd_T74 l0 x5_1).f3)).bind fun t141 => (if ((((((x4_1 ++ t134) ++ (⟨#[32, 118, 105, 97, 32]⟩ : ByteArray)) ++ bt136.1) ++ (⟨#[32, 108, 105, 110, 107, 32]⟩ : ByteArray)) ++ t140) ++ (⟨#[32, 109, 101, 116, 114, 105, 99, 32]⟩ : ByteArray)).size + t141.size ≤ 9223372036854775807 then (if (((((((x4_1 ++ t134) ++ (⟨#[32, 118, 105, 97, 32]⟩ : ByteArray)) ++ bt136.1) ++ (⟨#[32, 108, 105, 110, 107, 32]⟩ : ByteArray)) ++ t140) ++ (⟨#[32, 109, 101, 116, 114, 105, 99, 32]⟩ : ByteArray)) ++ t141).size + 1 ≤ 9223372036854775807 then (spec_ShowRoutes.l0 k1 l0 ((((((((x4_1 ++ t134) ++ (⟨#[32, 118, 105, 97, 32]⟩ : ByteArray)) ++ bt136.1) ++ (⟨#[32, 108, 105, 110, 107, 32]⟩ : ByteArray)) ++ t140) ++ (⟨#[32, 109, 101, 116, 114, 105, 99, 32]⟩ : ByteArray)) ++ t141) ++ (⟨#[10]⟩ : ByteArray)) (wrap64 (x5_1 + 1))) else (none)) else (none))) else (none))) else (none))) else (none)) else (none)) else (none)))) else (none)) = some (r1, r2) := H
 have A1005 := Aside0.mk A10050
 clear A10050
 by_cases c1006 : x4_1.size + t134.size ≤ 9223372036854775807
 rw [if_pos c1006] at H
 have c1006b0 := eq_true c1006
 have c1006b1 : decide (x4_1.size + t134.size ≤ 9223372036854775807) = true := decide_eq_true c1006
 try have c1006b2 : (9223372036854775807 < x4_1.size + t134.size) = False := eq_false (Nat.not_lt.2 c1006)
 by_cases c1007 : ((rd_T74 l0 x5_1).f1) = 0
 rw [if_pos c1007] at H
 have c1007b0 : (((rd_T74 l0 x5_1).f1) == 0) = true := beq_iff_eq.mpr c1007
 have c1007b1 : (((rd_T74 l0 x5_1).f1) != 0) = false := bne_eq_false_iff_eq.mpr c1007
 clear c1007
 by_cases c1008 : (x4_1 ++ t134).size + 6 ≤ 9223372036854775807
 rw [if_pos c1008] at H
 have c1008b0 := eq_true c1008
 have c1008b1 : decide ((x4_1 ++ t134).size + 6 ≤ 9223372036854775807) = true := decide_eq_true c1008
 try have c1008b2 : (9223372036854775807 < (x4_1 ++ t134).size + 6) = False := eq_false (Nat.not_lt.2 c1008)
 (try (have c1008b5 := c1008b2; simp only [ByteArray.size_append] at c1008b5))
 replace H := Option.bind_eq_some_iff.mp H
 obtain ⟨t138, A10090, H⟩ := H
 replace H : (if ((x4_1 ++ t134) ++ (⟨#[32, 108, 105, 110, 107, 32]⟩ : ByteArray)).size + t138.size ≤ 9223372036854775807 then (if ((rd_T74 l0 x5_1).f3) = 0 then (if (((x4_1 ++ t134) ++ (⟨#[32, 108, 105, 110, 107, 32]⟩ : ByteArray)) ++ t138).size + 1 ≤ 9223372036854775807 then (spec_ShowRoutes.l0 k1 l0 ((((x4_1 ++ t134) ++ (⟨#[32, 108, 105, 110, 107, 32]⟩ : ByteArray)) ++ t138) ++ (⟨#[10]⟩ : ByteArray)) (wrap64 (x5_1 + 1))) else (none)) else (if (((x4_1 ++ t134) ++ (⟨#[32, 108, 105, 110, 107, 32]⟩ : ByteArray)) ++ t138).size + 8 ≤ 9223372036854775807 then ((spec_l02Dec.f k1 ((rd_T74 l0 x5_1).f3)).bind fun t139 => (if ((((x4_1 ++ t134) ++ (⟨#[32, 108, 105, 110, 107, 32]⟩ : ByteArray)) ++ t138) ++ (⟨#[32, 109, 101, 116, 114, 105, 99, 32]⟩ : ByteArray)).size + t139.size ≤ 9223372036854775807 then (if (((((x4_1 ++ t134) ++ (⟨#[32, 108, 105, 110, 107, 32]⟩ : ByteArray)) ++ t138) ++ (⟨#[32, 109, 101, 116, 114, 105, 99, 32]⟩ : ByteArray)) ++ t139).size + 1 ≤ 9223372036854775807 then (spec_ShowRoutes.l0 k1 l0 ((((((x4_1 ++ t134) ++ (⟨#[32, 108, 105, 110, 107, 32]⟩ : ByteArray)) ++ t138) ++ (⟨#[32, 109, 101, 116, 114, 105, 99, 32]⟩ : ByteArray)) ++ t139) ++ (⟨#[10]⟩ : ByteArray)) (wrap64 (x5_1 + 1))) else (none)) else (none))) else (none))) else (none)) = some (r1, r2) := H
 have A1009 := Aside0.mk A10090
 clear A10090
 by_cases c1010 : ((x4_1 ++ t134) ++ (⟨#[32, 108, 105, 110, 107, 32]⟩ : ByteArray)).size + t138.size ≤ 9223372036854775807
 rw [if_pos c1010] at H
 have c1010b0 := eq_true c1010
 have c1010b1 : decide (((x4_1 ++ t134) ++ (⟨#[32, 108, 105, 110, 107, 32]⟩ : ByteArray)).size + t138.size ≤ 9223372036854775807) = true := decide_eq_true c1010
 try have c1010b2 : (9223372036854775807 < ((x4_1 ++ t134) ++ (⟨#[32, 108, 105, 110, 107, 32]⟩ : ByteArray)).size + t138.size) = False := eq_false (Nat.not_lt.2 c1010)
 (try (have c1010b5 := c1010b2; simp only [ByteArray.size_append, show (⟨#[32, 108, 105, 110, 107, 32]⟩ : ByteArray).size = 6 from rfl] at c1010b5))
 by_cases c1011 : ((rd_T74 l0 x5_1).f3) = 0
 rw [if_pos c1011] at H
 have c1011b0 : (((rd_T74 l0 x5_1).f3) == 0) = true := beq_iff_eq.mpr c1011
 have c1011b1 : (((rd_T74 l0 x5_1).f3) != 0) = false := bne_eq_false_iff_eq.mpr c1011
 clear c1011
 by_cases c1012 : (((x4_1 ++ t134) ++ (⟨#[32, 108, 105, 110, 107, 32]⟩ : ByteArray)) ++ t138).size + 1 ≤ 9223372036854775807
 rw [if_pos c1012] at H
 have c1012b0 := eq_true c1012
 have c1012b1 : decide ((((x4_1 ++ t134) ++ (⟨#[32, 108, 105, 110, 107, 32]⟩ : ByteArray)) ++ t138).size + 1 ≤ 9223372036854775807) = true := decide_eq_true c1012
 try have c1012b2 : (9223372036854775807 < (((x4_1 ++ t134) ++ (⟨#[32, 108, 105, 110, 107, 32]⟩ : ByteArray)) ++ t138).size + 1) = False := eq_false (Nat.not_lt.2 c1012)
 (try (have c1012b5 := c1012b2; simp only [ByteArray.size_append, show (⟨#[32, 108, 105, 110, 107, 32]⟩ : ByteArray).size = 6 from rfl] at c1012b5))
 have H' := Aside0.mk H
 clear H
 have bq1_ : True := trivial
 rotate_left
 rw [if_neg c1012] at H
 exact absurd H (by simp)
 rw [if_neg c1011] at H
 have c1011b0 : (((rd_T74 l0 x5_1).f3) == 0) = false := beq_eq_false_iff_ne.mpr c1011
 have c1011b1 : (((rd_T74 l0 x5_1).f3) != 0) = true := bne_iff_ne.mpr c1011
 by_cases c1013 : (((x4_1 ++ t134) ++ (⟨#[32, 108, 105, 110, 107, 32]⟩ : ByteArray)) ++ t138).size + 8 ≤ 9223372036854775807
 rw [if_pos c1013] at H
 have c1013b0 := eq_true c1013
 have c1013b1 : decide ((((x4_1 ++ t134) ++ (⟨#[32, 108, 105, 110, 107, 32]⟩ : ByteArray)) ++ t138).size + 8 ≤ 9223372036854775807) = true := decide_eq_true c1013
 try have c1013b2 : (9223372036854775807 < (((x4_1 ++ t134) ++ (⟨#[32, 108, 105, 110, 107, 32]⟩ : ByteArray)) ++ t138).size + 8) = False := eq_false (Nat.not_lt.2 c1013)
 (try (have c1013b5 := c1013b2; simp only [ByteArray.size_append, show (⟨#[32, 108, 105, 110, 107, 32]⟩ : ByteArray).size = 6 from rfl] at c1013b5))
 replace H := Option.bind_eq_some_iff.mp H
 obtain ⟨t139, A10140, H⟩ := H
 replace H : (if ((((x4_1 ++ t134) ++ (⟨#[32, 108, 105, 110, 107, 32]⟩ : ByteArray)) ++ t138) ++ (⟨#[32, 109, 101, 116, 114, 105, 99, 32]⟩ : ByteArray)).size + t139.size ≤ 9223372036854775807 then (if (((((x4_1 ++ t134) ++ (⟨#[32, 108, 105, 110, 107, 32]⟩ : ByteArray)) ++ t138) ++ (⟨#[32, 109, 101, 116, 114, 105, 99, 32]⟩ : ByteArray)) ++ t139).size + 1 ≤ 9223372036854775807 then (spec_ShowRoutes.l0 k1 l0 ((((((x4_1 ++ t134) ++ (⟨#[32, 108, 105, 110, 107, 32]⟩ : ByteArray)) ++ t138) ++ (⟨#[32, 109, 101, 116, 114, 105, 99, 32]⟩ : ByteArray)) ++ t139) ++ (⟨#[10]⟩ : ByteArray)) (wrap64 (x5_1 + 1))) else (none)) else (none)) = some (r1, r2) := H
 have A1014 := Aside0.mk A10140
 clear A10140
 by_cases c1015 : ((((x4_1 ++ t134) ++ (⟨#[32, 108, 105, 110, 107, 32]⟩ : ByteArray)) ++ t138) ++ (⟨#[32, 109, 101, 116, 114, 105, 99, 32]⟩ : ByteArray)).size + t139.size ≤ 9223372036854775807
 rw [if_pos c1015] at H
 have c1015b0 := eq_true c1015
 have c1015b1 : decide (((((x4_1 ++ t134) ++ (⟨#[32, 108, 105, 110, 107, 32]⟩ : ByteArray)) ++ t138) ++ (⟨#[32, 109, 101, 116, 114, 105, 99, 32]⟩ : ByteArray)).size + t139.size ≤ 9223372036854775807) = true := decide_eq_true c1015
 try have c1015b2 : (9223372036854775807 < ((((x4_1 ++ t134) ++ (⟨#[32, 108, 105, 110, 107, 32]⟩ : ByteArray)) ++ t138) ++ (⟨#[32, 109, 101, 116, 114, 105, 99, 32]⟩ : ByteArray)).size + t139.size) = False := eq_false (Nat.not_lt.2 c1015)
 (try (have c1015b5 := c1015b2; simp only [ByteArray.size_append, show (⟨#[32, 108, 105, 110, 107, 32]⟩ : ByteArray).size = 6 from rfl, show (⟨#[32, 109, 101, 116, 114, 105, 99, 32]⟩ : ByteArray).size = 8 from rfl] at c1015b5))
 by_cases c1016 : (((((x4_1 ++ t134) ++ (⟨#[32, 108, 105, 110, 107, 32]⟩ : ByteArray)) ++ t138) ++ (⟨#[32, 109, 101, 116, 114, 105, 99, 32]⟩ : ByteArray)) ++ t139).size + 1 ≤ 9223372036854775807
 rw [if_pos c1016] at H
 have c1016b0 := eq_true c1016
 have c1016b1 : decide ((((((x4_1 ++ t134) ++ (⟨#[32, 108, 105, 110, 107, 32]⟩ : ByteArray)) ++ t138) ++ (⟨#[32, 109, 101, 116, 114, 105, 99, 32]⟩ : ByteArray)) ++ t139).size + 1 ≤ 9223372036854775807) = true := decide_eq_true c1016
 try have c1016b2 : (9223372036854775807 < (((((x4_1 ++ t134) ++ (⟨#[32, 108, 105, 110, 107, 32]⟩ : ByteArray)) ++ t138) ++ (⟨#[32, 109, 101, 116, 114, 105, 99, 32]⟩ : ByteArray)) ++ t139).size + 1) = False := eq_false (Nat.not_lt.2 c1016)
 (try (have c1016b5 := c1016b2; simp only [ByteArray.size_append, show (⟨#[32, 108, 105, 110, 107, 32]⟩ : ByteArray).size = 6 from rfl, show (⟨#[32, 109, 101, 116, 114, 105, 99, 32]⟩ : ByteArray).size = 8 from rfl] at c1016b5))
 have H' := Aside0.mk H
 clear H
 have bq1_ : True := trivial
 rotate_left
 rw [if_neg c1016] at H
 exact absurd H (by simp)
 rw [if_neg c1015] at H
 exact absurd H (by simp)
 rw [if_neg c1013] at H
 exact absurd H (by simp)
 rw [if_neg c1010] at H
 exact absurd H (by simp)
 rw [if_neg c1008] at H
 exact absurd H (by simp)
 rw [if_neg c1007] at H
 have c1007b0 : (((rd_T74 l0 x5_1).f1) == 0) = false := beq_eq_false_iff_ne.mpr c1007
 have c1007b1 : (((rd_T74 l0 x5_1).f1) != 0) = true := bne_iff_ne.mpr c1007
 replace H := Option.bind_eq_some_iff.mp H
 obtain ⟨⟨t136, t137⟩, A10170, H⟩ := H
 replace H : (if (x4_1 ++ t134).size + 5 ≤ 9223372036854775807 then (if ((x4_1 ++ t134) ++ (⟨#[32, 118, 105, 97, 32]⟩ : ByteArray)).size + t136.size ≤ 9223372036854775807 then (if (((x4_1 ++ t134) ++ (⟨#[32, 118, 105, 97, 32]⟩ : ByteArray)) ++ t136).size + 6 ≤ 9223372036854775807 then ((spec_l02Dec.f k1 ((rd_T74 l0 x5_1).f2)).bind fun t140 => (if ((((x4_1 ++ t134) ++ (⟨#[32, 118, 105, 97, 32]⟩ : ByteArray)) ++ t136) ++ (⟨#[32, 108, 105, 110, 107, 32]⟩ : ByteArray)).size + t140.size ≤ 9223372036854775807 then (if ((rd_T74 l0 x5_1).f3) = 0 then (if (((((x4_1 ++ t134) ++ (⟨#[32, 118, 105, 97, 32]⟩ : ByteArray)) ++ t136) ++ (⟨#[32, 108, 105, 110, 107, 32]⟩ : ByteArray)) ++ t140).size + 1 ≤ 9223372036854775807 then (spec_ShowRoutes.l0 k1 l0 ((((((x4_1 ++ t134) ++ (⟨#[32, 118, 105, 97, 32]⟩ : ByteArray)) ++ t136) ++ (⟨#[32, 108, 105, 110, 107, 32]⟩ : ByteArray)) ++ t140) ++ (⟨#[10]⟩ : ByteArray)) (wrap64 (x5_1 + 1))) else (none)) else (if (((((x4_1 ++ t134) ++ (⟨#[32, 118, 105, 97, 32]⟩ : ByteArray)) ++ t136) ++ (⟨#[32, 108, 105, 110, 107, 32]⟩ : ByteArray)) ++ t140).size + 8 ≤ 9223372036854775807 then ((spec_l02Dec.f k1 ((rd_T74 l0 x5_1).f3)).bind fun t141 => (if ((((((x4_1 ++ t134) ++ (⟨#[32, 118, 105, 97, 32]⟩ : ByteArray)) ++ t136) ++ (⟨#[32, 108, 105, 110, 107, 32]⟩ : ByteArray)) ++ t140) ++ (⟨#[32, 109, 101, 116, 114, 105, 99, 32]⟩ : ByteArray)).size + t141.size ≤ 9223372036854775807 then (if (((((((x4_1 ++ t134) ++ (⟨#[32, 118, 105, 97, 32]⟩ : ByteArray)) ++ t136) ++ (⟨#[32, 108, 105, 110, 107, 32]⟩ : ByteArray)) ++ t140) ++ (⟨#[32, 109, 101, 116, 114, 105, 99, 32]⟩ : ByteArray)) ++ t141).size + 1 ≤ 9223372036854775807 then (spec_ShowRoutes.l0 k1 l0 ((((((((x4_1 ++ t134) ++ (⟨#[32, 118, 105, 97, 32]⟩ : ByteArray)) ++ t136) ++ (⟨#[32, 108, 105, 110, 107, 32]⟩ : ByteArray)) ++ t140) ++ (⟨#[32, 109, 101, 116, 114, 105, 99, 32]⟩ : ByteArray)) ++ t141) ++ (⟨#[10]⟩ : ByteArray)) (wrap64 (x5_1 + 1))) else (none)) else (none))) else (none))) else (none))) else (none)) else (none)) else (none)) = some (r1, r2) := H
 have A1017 := Aside0.mk A10170
 clear A10170
 by_cases c1018 : (x4_1 ++ t134).size + 5 ≤ 9223372036854775807
 rw [if_pos c1018] at H
 have c1018b0 := eq_true c1018
 have c1018b1 : decide ((x4_1 ++ t134).size + 5 ≤ 9223372036854775807) = true := decide_eq_true c1018
 try have c1018b2 : (9223372036854775807 < (x4_1 ++ t134).size + 5) = False := eq_false (Nat.not_lt.2 c1018)
 (try (have c1018b5 := c1018b2; simp only [ByteArray.size_append] at c1018b5))
 by_cases c1019 : ((x4_1 ++ t134) ++ (⟨#[32, 118, 105, 97, 32]⟩ : ByteArray)).size + t136.size ≤ 9223372036854775807
 rw [if_pos c1019] at H
 have c1019b0 := eq_true c1019
 have c1019b1 : decide (((x4_1 ++ t134) ++ (⟨#[32, 118, 105, 97, 32]⟩ : ByteArray)).size + t136.size ≤ 9223372036854775807) = true := decide_eq_true c1019
 try have c1019b2 : (9223372036854775807 < ((x4_1 ++ t134) ++ (⟨#[32, 118, 105, 97, 32]⟩ : ByteArray)).size + t136.size) = False := eq_false (Nat.not_lt.2 c1019)
 (try (have c1019b5 := c1019b2; simp only [ByteArray.size_append, show (⟨#[32, 118, 105, 97, 32]⟩ : ByteArray).size = 5 from rfl] at c1019b5))
 by_cases c1020 : (((x4_1 ++ t134) ++ (⟨#[32, 118, 105, 97, 32]⟩ : ByteArray)) ++ t136).size + 6 ≤ 9223372036854775807
 rw [if_pos c1020] at H
 have c1020b0 := eq_true c1020
 have c1020b1 : decide ((((x4_1 ++ t134) ++ (⟨#[32, 118, 105, 97, 32]⟩ : ByteArray)) ++ t136).size + 6 ≤ 9223372036854775807) = true := decide_eq_true c1020
 try have c1020b2 : (9223372036854775807 < (((x4_1 ++ t134) ++ (⟨#[32, 118, 105, 97, 32]⟩ : ByteArray)) ++ t136).size + 6) = False := eq_false (Nat.not_lt.2 c1020)
 (try (have c1020b5 := c1020b2; simp only [ByteArray.size_append, show (⟨#[32, 118, 105, 97, 32]⟩ : ByteArray).size = 5 from rfl] at c1020b5))
 replace H := Option.bind_eq_some_iff.mp H
 obtain ⟨t140, A10210, H⟩ := H
 replace H : (if ((((x4_1 ++ t134) ++ (⟨#[32, 118, 105, 97, 32]⟩ : ByteArray)) ++ t136) ++ (⟨#[32, 108, 105, 110, 107, 32]⟩ : ByteArray)).size + t140.size ≤ 9223372036854775807 then (if ((rd_T74 l0 x5_1).f3) = 0 then (if (((((x4_1 ++ t134) ++ (⟨#[32, 118, 105, 97, 32]⟩ : ByteArray)) ++ t136) ++ (⟨#[32, 108, 105, 110, 107, 32]⟩ : ByteArray)) ++ t140).size + 1 ≤ 9223372036854775807 then (spec_ShowRoutes.l0 k1 l0 ((((((x4_1 ++ t134) ++ (⟨#[32, 118, 105, 97, 32]⟩ : ByteArray)) ++ t136) ++ (⟨#[32, 108, 105, 110, 107, 32]⟩ : ByteArray)) ++ t140) ++ (⟨#[10]⟩ : ByteArray)) (wrap64 (x5_1 + 1))) else (none)) else (if (((((x4_1 ++ t134) ++ (⟨#[32, 118, 105, 97, 32]⟩ : ByteArray)) ++ t136) ++ (⟨#[32, 108, 105, 110, 107, 32]⟩ : ByteArray)) ++ t140).size + 8 ≤ 9223372036854775807 then ((spec_l02Dec.f k1 ((rd_T74 l0 x5_1).f3)).bind fun t141 => (if ((((((x4_1 ++ t134) ++ (⟨#[32, 118, 105, 97, 32]⟩ : ByteArray)) ++ t136) ++ (⟨#[32, 108, 105, 110, 107, 32]⟩ : ByteArray)) ++ t140) ++ (⟨#[32, 109, 101, 116, 114, 105, 99, 32]⟩ : ByteArray)).size + t141.size ≤ 9223372036854775807 then (if (((((((x4_1 ++ t134) ++ (⟨#[32, 118, 105, 97, 32]⟩ : ByteArray)) ++ t136) ++ (⟨#[32, 108, 105, 110, 107, 32]⟩ : ByteArray)) ++ t140) ++ (⟨#[32, 109, 101, 116, 114, 105, 99, 32]⟩ : ByteArray)) ++ t141).size + 1 ≤ 9223372036854775807 then (spec_ShowRoutes.l0 k1 l0 ((((((((x4_1 ++ t134) ++ (⟨#[32, 118, 105, 97, 32]⟩ : ByteArray)) ++ t136) ++ (⟨#[32, 108, 105, 110, 107, 32]⟩ : ByteArray)) ++ t140) ++ (⟨#[32, 109, 101, 116, 114, 105, 99, 32]⟩ : ByteArray)) ++ t141) ++ (⟨#[10]⟩ : ByteArray)) (wrap64 (x5_1 + 1))) else (none)) else (none))) else (none))) else (none)) = some (r1, r2) := H
 have A1021 := Aside0.mk A10210
 clear A10210
 by_cases c1022 : ((((x4_1 ++ t134) ++ (⟨#[32, 118, 105, 97, 32]⟩ : ByteArray)) ++ t136) ++ (⟨#[32, 108, 105, 110, 107, 32]⟩ : ByteArray)).size + t140.size ≤ 9223372036854775807
 rw [if_pos c1022] at H
 have c1022b0 := eq_true c1022
 have c1022b1 : decide (((((x4_1 ++ t134) ++ (⟨#[32, 118, 105, 97, 32]⟩ : ByteArray)) ++ t136) ++ (⟨#[32, 108, 105, 110, 107, 32]⟩ : ByteArray)).size + t140.size ≤ 9223372036854775807) = true := decide_eq_true c1022
 try have c1022b2 : (9223372036854775807 < ((((x4_1 ++ t134) ++ (⟨#[32, 118, 105, 97, 32]⟩ : ByteArray)) ++ t136) ++ (⟨#[32, 108, 105, 110, 107, 32]⟩ : ByteArray)).size + t140.size) = False := eq_false (Nat.not_lt.2 c1022)
 (try (have c1022b5 := c1022b2; simp only [ByteArray.size_append, show (⟨#[32, 108, 105, 110, 107, 32]⟩ : ByteArray).size = 6 from rfl, show (⟨#[32, 118, 105, 97, 32]⟩ : ByteArray).size = 5 from rfl] at c1022b5))
 by_cases c1023 : ((rd_T74 l0 x5_1).f3) = 0
 rw [if_pos c1023] at H
 have c1023b0 : (((rd_T74 l0 x5_1).f3) == 0) = true := beq_iff_eq.mpr c1023
 have c1023b1 : (((rd_T74 l0 x5_1).f3) != 0) = false := bne_eq_false_iff_eq.mpr c1023
 clear c1023
 by_cases c1024 : (((((x4_1 ++ t134) ++ (⟨#[32, 118, 105, 97, 32]⟩ : ByteArray)) ++ t136) ++ (⟨#[32, 108, 105, 110, 107, 32]⟩ : ByteArray)) ++ t140).size + 1 ≤ 9223372036854775807
 rw [if_pos c1024] at H
 have c1024b0 := eq_true c1024
 have c1024b1 : decide ((((((x4_1 ++ t134) ++ (⟨#[32, 118, 105, 97, 32]⟩ : ByteArray)) ++ t136) ++ (⟨#[32, 108, 105, 110, 107, 32]⟩ : ByteArray)) ++ t140).size + 1 ≤ 9223372036854775807) = true := decide_eq_true c1024
 try have c1024b2 : (9223372036854775807 < (((((x4_1 ++ t134) ++ (⟨#[32, 118, 105, 97, 32]⟩ : ByteArray)) ++ t136) ++ (⟨#[32, 108, 105, 110, 107, 32]⟩ : ByteArray)) ++ t140).size + 1) = False := eq_false (Nat.not_lt.2 c1024)
 (try (have c1024b5 := c1024b2; simp only [ByteArray.size_append, show (⟨#[32, 108, 105, 110, 107, 32]⟩ : ByteArray).size = 6 from rfl, show (⟨#[32, 118, 105, 97, 32]⟩ : ByteArray).size = 5 from rfl] at c1024b5))
 have H' := Aside0.mk H
 clear H
 have bq1_ : True := trivial
 rotate_left
 rw [if_neg c1024] at H
 exact absurd H (by simp)
 rw [if_neg c1023] at H
 have c1023b0 : (((rd_T74 l0 x5_1).f3) == 0) = false := beq_eq_false_iff_ne.mpr c1023
 have c1023b1 : (((rd_T74 l0 x5_1).f3) != 0) = true := bne_iff_ne.mpr c1023
 by_cases c1025 : (((((x4_1 ++ t134) ++ (⟨#[32, 118, 105, 97, 32]⟩ : ByteArray)) ++ t136) ++ (⟨#[32, 108, 105, 110, 107, 32]⟩ : ByteArray)) ++ t140).size + 8 ≤ 9223372036854775807
 rw [if_pos c1025] at H
 have c1025b0 := eq_true c1025
 have c1025b1 : decide ((((((x4_1 ++ t134) ++ (⟨#[32, 118, 105, 97, 32]⟩ : ByteArray)) ++ t136) ++ (⟨#[32, 108, 105, 110, 107, 32]⟩ : ByteArray)) ++ t140).size + 8 ≤ 9223372036854775807) = true := decide_eq_true c1025
 try have c1025b2 : (9223372036854775807 < (((((x4_1 ++ t134) ++ (⟨#[32, 118, 105, 97, 32]⟩ : ByteArray)) ++ t136) ++ (⟨#[32, 108, 105, 110, 107, 32]⟩ : ByteArray)) ++ t140).size + 8) = False := eq_false (Nat.not_lt.2 c1025)
 (try (have c1025b5 := c1025b2; simp only [ByteArray.size_append, show (⟨#[32, 108, 105, 110, 107, 32]⟩ : ByteArray).size = 6 from rfl, show (⟨#[32, 118, 105, 97, 32]⟩ : ByteArray).size = 5 from rfl] at c1025b5))
 replace H := Option.bind_eq_some_iff.mp H
 obtain ⟨t141, A10260, H⟩ := H
 replace H : (if ((((((x4_1 ++ t134) ++ (⟨#[32, 118, 105, 97, 32]⟩ : ByteArray)) ++ t136) ++ (⟨#[32, 108, 105, 110, 107, 32]⟩ : ByteArray)) ++ t140) ++ (⟨#[32, 109, 101, 116, 114, 105, 99, 32]⟩ : ByteArray)).size + t141.size ≤ 9223372036854775807 then (if (((((((x4_1 ++ t134) ++ (⟨#[32, 118, 105, 97, 32]⟩ : ByteArray)) ++ t136) ++ (⟨#[32, 108, 105, 110, 107, 32]⟩ : ByteArray)) ++ t140) ++ (⟨#[32, 109, 101, 116, 114, 105, 99, 32]⟩ : ByteArray)) ++ t141).size + 1 ≤ 9223372036854775807 then (spec_ShowRoutes.l0 k1 l0 ((((((((x4_1 ++ t134) ++ (⟨#[32, 118, 105, 97, 32]⟩ : ByteArray)) ++ t136) ++ (⟨#[32, 108, 105, 110, 107, 32]⟩ : ByteArray)) ++ t140) ++ (⟨#[32, 109, 101, 116, 114, 105, 99, 32]⟩ : ByteArray)) ++ t141) ++ (⟨#[10]⟩ : ByteArray)) (wrap64 (x5_1 + 1))) else (none)) else (none)) = some (r1, r2) := H
 have A1026 := Aside0.mk A10260
 clear A10260
 by_cases c1027 : ((((((x4_1 ++ t134) ++ (⟨#[32, 118, 105, 97, 32]⟩ : ByteArray)) ++ t136) ++ (⟨#[32, 108, 105, 110, 107, 32]⟩ : ByteArray)) ++ t140) ++ (⟨#[32, 109, 101, 116, 114, 105, 99, 32]⟩ : ByteArray)).size + t141.size ≤ 9223372036854775807
 rw [if_pos c1027] at H
 have c1027b0 := eq_true c1027
 have c1027b1 : decide (((((((x4_1 ++ t134) ++ (⟨#[32, 118, 105, 97, 32]⟩ : ByteArray)) ++ t136) ++ (⟨#[32, 108, 105, 110, 107, 32]⟩ : ByteArray)) ++ t140) ++ (⟨#[32, 109, 101, 116, 114, 105, 99, 32]⟩ : ByteArray)).size + t141.size ≤ 9223372036854775807) = true := decide_eq_true c1027
 try have c1027b2 : (9223372036854775807 < ((((((x4_1 ++ t134) ++ (⟨#[32, 118, 105, 97, 32]⟩ : ByteArray)) ++ t136) ++ (⟨#[32, 108, 105, 110, 107, 32]⟩ : ByteArray)) ++ t140) ++ (⟨#[32, 109, 101, 116, 114, 105, 99, 32]⟩ : ByteArray)).size + t141.size) = False := eq_false (Nat.not_lt.2 c1027)
 (try (have c1027b5 := c1027b2; simp only [ByteArray.size_append, show (⟨#[32, 108, 105, 110, 107, 32]⟩ : ByteArray).size = 6 from rfl, show (⟨#[32, 109, 101, 116, 114, 105, 99, 32]⟩ : ByteArray).size = 8 from rfl, show (⟨#[32, 118, 105, 97, 32]⟩ : ByteArray).size = 5 from rfl] at c1027b5))
 by_cases c1028 : (((((((x4_1 ++ t134) ++ (⟨#[32, 118, 105, 97, 32]⟩ : ByteArray)) ++ t136) ++ (⟨#[32, 108, 105, 110, 107, 32]⟩ : ByteArray)) ++ t140) ++ (⟨#[32, 109, 101, 116, 114, 105, 99, 32]⟩ : ByteArray)) ++ t141).size + 1 ≤ 9223372036854775807
 rw [if_pos c1028] at H
 have c1028b0 := eq_true c1028
 have c1028b1 : decide ((((((((x4_1 ++ t134) ++ (⟨#[32, 118, 105, 97, 32]⟩ : ByteArray)) ++ t136) ++ (⟨#[32, 108, 105, 110, 107, 32]⟩ : ByteArray)) ++ t140) ++ (⟨#[32, 109, 101, 116, 114, 105, 99, 32]⟩ : ByteArray)) ++ t141).size + 1 ≤ 9223372036854775807) = true := decide_eq_true c1028
 try have c1028b2 : (9223372036854775807 < (((((((x4_1 ++ t134) ++ (⟨#[32, 118, 105, 97, 32]⟩ : ByteArray)) ++ t136) ++ (⟨#[32, 108, 105, 110, 107, 32]⟩ : ByteArray)) ++ t140) ++ (⟨#[32, 109, 101, 116, 114, 105, 99, 32]⟩ : ByteArray)) ++ t141).size + 1) = False := eq_false (Nat.not_lt.2 c1028)
 (try (have c1028b5 := c1028b2; simp only [ByteArray.size_append, show (⟨#[32, 108, 105, 110, 107, 32]⟩ : ByteArray).size = 6 from rfl, show (⟨#[32, 109, 101, 116, 114, 105, 99, 32]⟩ : ByteArray).size = 8 from rfl, show (⟨#[32, 118, 105, 97, 32]⟩ : ByteArray).size = 5 from rfl] at c1028b5))
 have H' := Aside0.mk H
 clear H
 have bq1_ : True := trivial
 rotate_left
 rw [if_neg c1028] at H
 exact absurd H (by simp)
 rw [if_neg c1027] at H
 exact absurd H (by simp)
 rw [if_neg c1025] at H
 exact absurd H (by simp)
 rw [if_neg c1022] at H
 exact absurd H (by simp)
 rw [if_neg c1020] at H
 exact absurd H (by simp)
 rw [if_neg c1019] at H
 exact absurd H (by simp)
 rw [if_neg c1018] at H
 exact absurd H (by simp)
 rw [if_neg c1006] at H
 exact absurd H (by simp)
 replace c1004 := Bool.eq_false_iff.mpr c1004
 subst c1004
 have H1 : (some ((⟨#[]⟩ : ByteArray), 1)) = some (r1, r2) := by rw [if_neg (show ¬ (false = true) by decide)] at H; exact H
 clear H
 have H := H1
 clear H1
 simp only [Option.some.injEq, Prod.mk.injEq] at H
 obtain ⟨rfl, rfl⟩ := H
 rotate_left
 rw [if_neg c1002] at H
 exact absurd H (by simp)
 rw [if_neg c1001] at H
 have c1001b0 : decide (x5_1 < (l0.length : Int)) = false := decide_eq_false c1001
 clear c1001
 simp only [Option.some.injEq, Prod.mk.injEq] at H
 obtain ⟨rfl, rfl⟩ := H
 rotate_left
 iterate 5 (
 focus (
 have p131 : 0 ≤ (x5_1 : Int) := of_decide_eq_true (by first | (with_reducible assumption) | assumption)
 have q131 : x5_1 < (l0.length : Int) := of_decide_eq_true (by first | (with_reducible assumption) | assumption)
 obtain ⟨ad131, e131, hx131_0, hx131_1, hx131_2, hx131_3, hx131_4⟩ := at_T74 HR0.out x5_1 p131 q131
 cases e131
 replace hx131_0 := (HB.out.cell (World.block_lt_of_cell? w _ hx131_0)).trans hx131_0
 replace hx131_1 := (HB.out.cell (World.block_lt_of_cell? w _ hx131_1)).trans hx131_1
 replace hx131_2 := (HB.out.cell (World.block_lt_of_cell? w _ hx131_2)).trans hx131_2
 replace hx131_3 := (HB.out.cell (World.block_lt_of_cell? w _ hx131_3)).trans hx131_3
 replace hx131_4 := (HB.out.cell (World.block_lt_of_cell? w _ hx131_4)).trans hx131_4
 replace p131 := eq_true p131
 replace q131 := eq_true q131
 )
 rotate_left
 )
 rotate_right 5
 iterate 2 (
 focus (
 go_wp2_with (first | ((with_reducible refine gate_dst (N := 6) rfl ?_); refine box_event ?hg (N := 6) ?hd (cs := #[.int .i64 0, .int .i64 0, .int .i64 0, .int .i64 0, .int .i64 0]) (t := 74) ?hr ?_; (case hd => rfl); (case hg => rfl); (case hr => first | (go_simp; done) | (go_simp; rfl)); intro gb132 hg w2001 hbox hb; have n0_ := Aside0.mk (below_step wB hb); have n1_ := Aside0.mk (hbox); have n2_ := Aside0.mk ((by rw [hg]; exact (below_size wB) : w.heap.size ≤ gb132)); have n3_ := Aside0.mk ((by rw [hg]; exact (below_size wB) : w.heap.size ≤ gb132)); clear HB; have HB := n0_; have BK132 := n1_; have GW132 := n2_; have GE132 := n3_; clear n0_ n1_ n2_ n3_; clear hb hbox hg; obtain ⟨⟨hcz2002_0, hcz2002_1, hcz2002_2, hcz2002_3, hcz2002_4⟩, hfz2002_0, hfz2002_1, hfz2002_2, hfz2002_3, hfz2002_4⟩ := cells5 BK132.out) | ((with_reducible refine gate_store (t := 74) (p := 6) rfl ?_); refine store_event (t := 74) (p := 6) (v := ?_) (w1 := (((((w2001.setCell ⟨gb132, 0, none⟩ (.int .i64 ((rd_T74 l0 x5_1).f0.f0))).setCell ⟨gb132, 1, none⟩ (.int .i64 ((rd_T74 l0 x5_1).f0.f1))).setCell ⟨gb132, 2, none⟩ (.int .i64 ((rd_T74 l0 x5_1).f1))).setCell ⟨gb132, 3, none⟩ (.int .i64 ((rd_T74 l0 x5_1).f2))).setCell ⟨gb132, 4, none⟩ (.int .i64 ((rd_T74 l0 x5_1).f3)))) ?hg ?ho ?hn ?hr ?_; (case ho => rfl); (case hg => rfl); (case hn => rfl); (case hr => first | (go_simp; done) | (go_simp; rfl)); intro w2003 hw; have n0_ : Aside0 (w2003.heap[gb132]? = some (.cells #[.int .i64 ((rd_T74 l0 x5_1).f0.f0), .int .i64 ((rd_T74 l0 x5_1).f0.f1), .int .i64 ((rd_T74 l0 x5_1).f1), .int .i64 ((rd_T74 l0 x5_1).f2), .int .i64 ((rd_T74 l0 x5_1).f3)] 74 (0, 0))) := ⟨(by rw [hw]; exact (by (with_reducible repeat (first | refine blk_drewN ?_ _ | refine blk_drew ?_ | refine blk_alloc ?_ _)); refine blk_put (cs := #[.int .i64 ((rd_T74 l0 x5_1).f0.f0), .int .i64 ((rd_T74 l0 x5_1).f0.f1), .int .i64 ((rd_T74 l0 x5_1).f1), .int .i64 ((rd_T74 l0 x5_1).f2), .int .i64 0]) ?_ 4 _ rfl; (with_reducible repeat (first | refine blk_drewN ?_ _ | refine blk_drew ?_ | refine blk_alloc ?_ _)); refine blk_put (cs := #[.int .i64 ((rd_T74 l0 x5_1).f0.f0), .int .i64 ((rd_T74 l0 x5_1).f0.f1), .int .i64 ((rd_T74 l0 x5_1).f1), .int .i64 0, .int .i64 0]) ?_ 3 _ rfl; (with_reducible repeat (first | refine blk_drewN ?_ _ | refine blk_drew ?_ | refine blk_alloc ?_ _)); refine blk_put (cs := #[.int .i64 ((rd_T74 l0 x5_1).f0.f0), .int .i64 ((rd_T74 l0 x5_1).f0.f1), .int .i64 0, .int .i64 0, .int .i64 0]) ?_ 2 _ rfl; (with_reducible repeat (first | refine blk_drewN ?_ _ | refine blk_drew ?_ | refine blk_alloc ?_ _)); refine blk_put (cs := #[.int .i64 ((rd_T74 l0 x5_1).f0.f0), .int .i64 0, .int .i64 0, .int .i64 0, .int .i64 0]) ?_ 1 _ rfl; (with_reducible repeat (first | refine blk_drewN ?_ _ | refine blk_drew ?_ | refine blk_alloc ?_ _)); refine blk_put (cs := #[.int .i64 0, .int .i64 0, .int .i64 0, .int .i64 0, .int .i64 0]) ?_ 0 _ rfl; (with_reducible repeat (first | refine blk_drewN ?_ _ | refine blk_drew ?_ | refine blk_alloc ?_ _)); exact BK132.out))⟩; have n1_ : Aside0 (Below w.heap.size w w2003) := ⟨(by rw [hw]; exact wB)⟩; clear hw; clear BK132; clear HB; have BK132 := n0_; have HB := n1_; clear n0_ n1_; obtain ⟨⟨hcz2004_0, hcz2004_1, hcz2004_2, hcz2004_3, hcz2004_4⟩, hfz2004_0, hfz2004_1, hfz2004_2, hfz2004_3, hfz2004_4⟩ := cells5 BK132.out) | ((with_reducible refine gate_callee (f := 52) rfl ?_); refine goesL_ (some 25) rfl rfl Tryd.func52 (by kernel_rfl) rfl #[.agg #[.int .i64 ((rd_T74 l0 x5_1).f0.f0), .int .i64 ((rd_T74 l0 x5_1).f0.f1), .int .i64 ((rd_T74 l0 x5_1).f1), .int .i64 ((rd_T74 l0 x5_1).f2), .int .i64 ((rd_T74 l0 x5_1).f3)]] rfl wT ?_; (with_reducible refine (spec_l08OK.calls k1 ((rd_T74 l0 x5_1).f0.f0) ((rd_T74 l0 x5_1).f0.f1) ((rd_T74 l0 x5_1).f1) ((rd_T74 l0 x5_1).f2) ((rd_T74 l0 x5_1).f3) true _ A1003.out).mono ?_); rintro e w2005 ⟨rfl, hb⟩; refine ⟨_, rfl, ?_⟩; have n0_ := Aside0.mk (blk_below (Bh BK132) hb); have n1_ := Aside0.mk (below_step wB hb); clear BK132; clear HB; have BK132 := n0_; have HB := n1_; clear n0_ n1_; (try clear hb); (try clear hb2); (try clear hk); (try clear hi); obtain ⟨⟨hcz2006_0, hcz2006_1, hcz2006_2, hcz2006_3, hcz2006_4⟩, hfz2006_0, hfz2006_1, hfz2006_2, hfz2006_3, hfz2006_4⟩ := cells5 BK132.out) | ((with_reducible refine gate_callee (f := 25) rfl ?_); refine goesL_ (some 30) rfl rfl Tryd.func25 (by kernel_rfl) rfl #[.agg #[.int .i64 ((rd_T74 l0 x5_1).f0.f0), .int .i64 ((rd_T74 l0 x5_1).f0.f1)]] rfl wT ?_; (with_reducible refine (spec_ShowPrefix.calls k1 ((rd_T74 l0 x5_1).f0.f0) ((rd_T74 l0 x5_1).f0.f1) t134 t135 _ A1005.out).mono ?_); rintro e w2007 ⟨rfl, hb⟩; refine ⟨_, rfl, ?_⟩; have n0_ := Aside0.mk (blk_below (Bh BK132) hb); have n1_ := Aside0.mk (below_step wB hb); clear BK132; clear HB; have BK132 := n0_; have HB := n1_; clear n0_ n1_; (try clear hb); (try clear hb2); (try clear hk); (try clear hi); obtain ⟨⟨hcz2008_0, hcz2008_1, hcz2008_2, hcz2008_3, hcz2008_4⟩, hfz2008_0, hfz2008_1, hfz2008_2, hfz2008_3, hfz2008_4⟩ := cells5 BK132.out) | ((with_reducible refine gate_callee (f := 50) rfl ?_); refine goesL_ (some 53) rfl rfl Tryd.func50 (by kernel_rfl) rfl #[.int .i64 ((rd_T74 l0 x5_1).f2)] rfl wT ?_; (with_reducible refine (spec_l02Dec.calls k1 ((rd_T74 l0 x5_1).f2) t138 _ A1009.out).mono ?_); rintro e w2009 ⟨rfl, hb⟩; refine ⟨_, rfl, ?_⟩; have n0_ := Aside0.mk (blk_below (Bh BK132) hb); have n1_ := Aside0.mk (below_step wB hb); clear BK132; clear HB; have BK132 := n0_; have HB := n1_; clear n0_ n1_; (try clear hb); (try clear hb2); (try clear hk); (try clear hi); obtain ⟨⟨hcz2010_0, hcz2010_1, hcz2010_2, hcz2010_3, hcz2010_4⟩, hfz2010_0, hfz2010_1, hfz2010_2, hfz2010_3, hfz2010_4⟩ := cells5 BK132.out) | ((with_reducible refine gate_callee (f := 50) rfl ?_); refine goesL_ (some 62) rfl rfl Tryd.func50 (by kernel_rfl) rfl #[.int .i64 ((rd_T74 l0 x5_1).f3)] rfl wT ?_; (with_reducible refine (spec_l02Dec.calls k1 ((rd_T74 l0 x5_1).f3) t139 _ A1014.out).mono ?_); rintro e w2011 ⟨rfl, hb⟩; refine ⟨_, rfl, ?_⟩; have n0_ := Aside0.mk (blk_below (Bh BK132) hb); have n1_ := Aside0.mk (below_step wB hb); clear BK132; clear HB; have BK132 := n0_; have HB := n1_; clear n0_ n1_; (try clear hb); (try clear hb2); (try clear hk); (try clear hi)))
 go_roundg k1
 case measure => have := HK1.out; omega
 )
 rotate_left
 )
 rotate_right 2
 {
 case rel => exact ⟨((((x4_1 ++ t134) ++ (⟨#[32, 108, 105, 110, 107, 32]⟩ : ByteArray)) ++ t138) ++ (⟨#[10]⟩ : ByteArray)), (wrap64 (x5_1 + 1)), (by first | rfl | (simp; done) | (simp [*]; done)), (by first | rfl | (simp; done) | (simp [*]; done)), H', ⟨by have := HK1.out; omega⟩, ⟨wB⟩⟩
 }
 {
 case rel => exact ⟨((((((x4_1 ++ t134) ++ (⟨#[32, 108, 105, 110, 107, 32]⟩ : ByteArray)) ++ t138) ++ (⟨#[32, 109, 101, 116, 114, 105, 99, 32]⟩ : ByteArray)) ++ t139) ++ (⟨#[10]⟩ : ByteArray)), (wrap64 (x5_1 + 1)), (by first | rfl | (simp; done) | (simp [*]; done)), (by first | rfl | (simp; done) | (simp [*]; done)), H', ⟨by have := HK1.out; omega⟩, ⟨wB⟩⟩
 }
 iterate 2 (
 focus (
 go_wp2_with (first | ((with_reducible refine gate_dst (N := 6) rfl ?_); refine box_event ?hg (N := 6) ?hd (cs := #[.int .i64 0, .int .i64 0, .int .i64 0, .int .i64 0, .int .i64 0]) (t := 74) ?hr ?_; (case hd => rfl); (case hg => rfl); (case hr => first | (go_simp; done) | (go_simp; rfl)); intro gb132 hg w2001 hbox hb; have n0_ := Aside0.mk (below_step wB hb); have n1_ := Aside0.mk (hbox); have n2_ := Aside0.mk ((by rw [hg]; exact (below_size wB) : w.heap.size ≤ gb132)); have n3_ := Aside0.mk ((by rw [hg]; exact (below_size wB) : w.heap.size ≤ gb132)); clear HB; have HB := n0_; have BK132 := n1_; have GW132 := n2_; have GE132 := n3_; clear n0_ n1_ n2_ n3_; clear hb hbox hg; obtain ⟨⟨hcz2002_0, hcz2002_1, hcz2002_2, hcz2002_3, hcz2002_4⟩, hfz2002_0, hfz2002_1, hfz2002_2, hfz2002_3, hfz2002_4⟩ := cells5 BK132.out) | ((with_reducible refine gate_store (t := 74) (p := 6) rfl ?_); refine store_event (t := 74) (p := 6) (v := ?_) (w1 := (((((w2001.setCell ⟨gb132, 0, none⟩ (.int .i64 ((rd_T74 l0 x5_1).f0.f0))).setCell ⟨gb132, 1, none⟩ (.int .i64 ((rd_T74 l0 x5_1).f0.f1))).setCell ⟨gb132, 2, none⟩ (.int .i64 ((rd_T74 l0 x5_1).f1))).setCell ⟨gb132, 3, none⟩ (.int .i64 ((rd_T74 l0 x5_1).f2))).setCell ⟨gb132, 4, none⟩ (.int .i64 ((rd_T74 l0 x5_1).f3)))) ?hg ?ho ?hn ?hr ?_; (case ho => rfl); (case hg => rfl); (case hn => rfl); (case hr => first | (go_simp; done) | (go_simp; rfl)); intro w2003 hw; have n0_ : Aside0 (w2003.heap[gb132]? = some (.cells #[.int .i64 ((rd_T74 l0 x5_1).f0.f0), .int .i64 ((rd_T74 l0 x5_1).f0.f1), .int .i64 ((rd_T74 l0 x5_1).f1), .int .i64 ((rd_T74 l0 x5_1).f2), .int .i64 ((rd_T74 l0 x5_1).f3)] 74 (0, 0))) := ⟨(by rw [hw]; exact (by (with_reducible repeat (first | refine blk_drewN ?_ _ | refine blk_drew ?_ | refine blk_alloc ?_ _)); refine blk_put (cs := #[.int .i64 ((rd_T74 l0 x5_1).f0.f0), .int .i64 ((rd_T74 l0 x5_1).f0.f1), .int .i64 ((rd_T74 l0 x5_1).f1), .int .i64 ((rd_T74 l0 x5_1).f2), .int .i64 0]) ?_ 4 _ rfl; (with_reducible repeat (first | refine blk_drewN ?_ _ | refine blk_drew ?_ | refine blk_alloc ?_ _)); refine blk_put (cs := #[.int .i64 ((rd_T74 l0 x5_1).f0.f0), .int .i64 ((rd_T74 l0 x5_1).f0.f1), .int .i64 ((rd_T74 l0 x5_1).f1), .int .i64 0, .int .i64 0]) ?_ 3 _ rfl; (with_reducible repeat (first | refine blk_drewN ?_ _ | refine blk_drew ?_ | refine blk_alloc ?_ _)); refine blk_put (cs := #[.int .i64 ((rd_T74 l0 x5_1).f0.f0), .int .i64 ((rd_T74 l0 x5_1).f0.f1), .int .i64 0, .int .i64 0, .int .i64 0]) ?_ 2 _ rfl; (with_reducible repeat (first | refine blk_drewN ?_ _ | refine blk_drew ?_ | refine blk_alloc ?_ _)); refine blk_put (cs := #[.int .i64 ((rd_T74 l0 x5_1).f0.f0), .int .i64 0, .int .i64 0, .int .i64 0, .int .i64 0]) ?_ 1 _ rfl; (with_reducible repeat (first | refine blk_drewN ?_ _ | refine blk_drew ?_ | refine blk_alloc ?_ _)); refine blk_put (cs := #[.int .i64 0, .int .i64 0, .int .i64 0, .int .i64 0, .int .i64 0]) ?_ 0 _ rfl; (with_reducible repeat (first | refine blk_drewN ?_ _ | refine blk_drew ?_ | refine blk_alloc ?_ _)); exact BK132.out))⟩; have n1_ : Aside0 (Below w.heap.size w w2003) := ⟨(by rw [hw]; exact wB)⟩; clear hw; clear BK132; clear HB; have BK132 := n0_; have HB := n1_; clear n0_ n1_; obtain ⟨⟨hcz2004_0, hcz2004_1, hcz2004_2, hcz2004_3, hcz2004_4⟩, hfz2004_0, hfz2004_1, hfz2004_2, hfz2004_3, hfz2004_4⟩ := cells5 BK132.out) | ((with_reducible refine gate_callee (f := 52) rfl ?_); refine goesL_ (some 25) rfl rfl Tryd.func52 (by kernel_rfl) rfl #[.agg #[.int .i64 ((rd_T74 l0 x5_1).f0.f0), .int .i64 ((rd_T74 l0 x5_1).f0.f1), .int .i64 ((rd_T74 l0 x5_1).f1), .int .i64 ((rd_T74 l0 x5_1).f2), .int .i64 ((rd_T74 l0 x5_1).f3)]] rfl wT ?_; (with_reducible refine (spec_l08OK.calls k1 ((rd_T74 l0 x5_1).f0.f0) ((rd_T74 l0 x5_1).f0.f1) ((rd_T74 l0 x5_1).f1) ((rd_T74 l0 x5_1).f2) ((rd_T74 l0 x5_1).f3) true _ A1003.out).mono ?_); rintro e w2005 ⟨rfl, hb⟩; refine ⟨_, rfl, ?_⟩; have n0_ := Aside0.mk (blk_below (Bh BK132) hb); have n1_ := Aside0.mk (below_step wB hb); clear BK132; clear HB; have BK132 := n0_; have HB := n1_; clear n0_ n1_; (try clear hb); (try clear hb2); (try clear hk); (try clear hi); obtain ⟨⟨hcz2006_0, hcz2006_1, hcz2006_2, hcz2006_3, hcz2006_4⟩, hfz2006_0, hfz2006_1, hfz2006_2, hfz2006_3, hfz2006_4⟩ := cells5 BK132.out) | ((with_reducible refine gate_callee (f := 25) rfl ?_); refine goesL_ (some 30) rfl rfl Tryd.func25 (by kernel_rfl) rfl #[.agg #[.int .i64 ((rd_T74 l0 x5_1).f0.f0), .int .i64 ((rd_T74 l0 x5_1).f0.f1)]] rfl wT ?_; (with_reducible refine (spec_ShowPrefix.calls k1 ((rd_T74 l0 x5_1).f0.f0) ((rd_T74 l0 x5_1).f0.f1) t134 t135 _ A1005.out).mono ?_); rintro e w2007 ⟨rfl, hb⟩; refine ⟨_, rfl, ?_⟩; have n0_ := Aside0.mk (blk_below (Bh BK132) hb); have n1_ := Aside0.mk (below_step wB hb); clear BK132; clear HB; have BK132 := n0_; have HB := n1_; clear n0_ n1_; (try clear hb); (try clear hb2); (try clear hk); (try clear hi); obtain ⟨⟨hcz2008_0, hcz2008_1, hcz2008_2, hcz2008_3, hcz2008_4⟩, hfz2008_0, hfz2008_1, hfz2008_2, hfz2008_3, hfz2008_4⟩ := cells5 BK132.out) | ((with_reducible refine gate_callee (f := 22) rfl ?_); refine goesL_ (some 42) rfl rfl Tryd.func22 (by kernel_rfl) rfl #[.int .i64 ((rd_T74 l0 x5_1).f1)] rfl wT ?_; (with_reducible refine (spec_ShowAddr.calls k1 ((rd_T74 l0 x5_1).f1) t136 t137 _ A1017.out).mono ?_); rintro e w2009 ⟨rfl, hb⟩; refine ⟨_, rfl, ?_⟩; have n0_ := Aside0.mk (blk_below (Bh BK132) hb); have n1_ := Aside0.mk (below_step wB hb); clear BK132; clear HB; have BK132 := n0_; have HB := n1_; clear n0_ n1_; (try clear hb); (try clear hb2); (try clear hk); (try clear hi); obtain ⟨⟨hcz2010_0, hcz2010_1, hcz2010_2, hcz2010_3, hcz2010_4⟩, hfz2010_0, hfz2010_1, hfz2010_2, hfz2010_3, hfz2010_4⟩ := cells5 BK132.out) | ((with_reducible refine gate_callee (f := 50) rfl ?_); refine goesL_ (some 53) rfl rfl Tryd.func50 (by kernel_rfl) rfl #[.int .i64 ((rd_T74 l0 x5_1).f2)] rfl wT ?_; (with_reducible refine (spec_l02Dec.calls k1 ((rd_T74 l0 x5_1).f2) t140 _ A1021.out).mono ?_); rintro e w2011 ⟨rfl, hb⟩; refine ⟨_, rfl, ?_⟩; have n0_ := Aside0.mk (blk_below (Bh BK132) hb); have n1_ := Aside0.mk (below_step wB hb); clear BK132; clear HB; have BK132 := n0_; have HB := n1_; clear n0_ n1_; (try clear hb); (try clear hb2); (try clear hk); (try clear hi); obtain ⟨⟨hcz2012_0, hcz2012_1, hcz2012_2, hcz2012_3, hcz2012_4⟩, hfz2012_0, hfz2012_1, hfz2012_2, hfz2012_3, hfz2012_4⟩ := cells5 BK132.out) | ((with_reducible refine gate_callee (f := 50) rfl ?_); refine goesL_ (some 62) rfl rfl Tryd.func50 (by kernel_rfl) rfl #[.int .i64 ((rd_T74 l0 x5_1).f3)] rfl wT ?_; (with_reducible refine (spec_l02Dec.calls k1 ((rd_T74 l0 x5_1).f3) t141 _ A1026.out).mono ?_); rintro e w2013 ⟨rfl, hb⟩; refine ⟨_, rfl, ?_⟩; have n0_ := Aside0.mk (blk_below (Bh BK132) hb); have n1_ := Aside0.mk (below_step wB hb); clear BK132; clear HB; have BK132 := n0_; have HB := n1_; clear n0_ n1_; (try clear hb); (try clear hb2); (try clear hk); (try clear hi)))
 go_roundg k1
 case measure => have := HK1.out; omega
 )
 rotate_left
 )
 rotate_right 2
 {
 case rel => exact ⟨((((((x4_1 ++ t134) ++ (⟨#[32, 118, 105, 97, 32]⟩ : ByteArray)) ++ t136) ++ (⟨#[32, 108, 105, 110, 107, 32]⟩ : ByteArray)) ++ t140) ++ (⟨#[10]⟩ : ByteArray)), (wrap64 (x5_1 + 1)), (by first | rfl | (simp; done) | (simp [*]; done)), (by first | rfl | (simp; done) | (simp [*]; done)), H', ⟨by have := HK1.out; omega⟩, ⟨wB⟩⟩
 }
 {
 case rel => exact ⟨((((((((x4_1 ++ t134) ++ (⟨#[32, 118, 105, 97, 32]⟩ : ByteArray)) ++ t136) ++ (⟨#[32, 108, 105, 110, 107, 32]⟩ : ByteArray)) ++ t140) ++ (⟨#[32, 109, 101, 116, 114, 105, 99, 32]⟩ : ByteArray)) ++ t141) ++ (⟨#[10]⟩ : ByteArray)), (wrap64 (x5_1 + 1)), (by first | rfl | (simp; done) | (simp [*]; done)), (by first | rfl | (simp; done) | (simp [*]; done)), H', ⟨by have := HK1.out; omega⟩, ⟨wB⟩⟩
 }
 {
 go_wp2_with (first | ((with_reducible refine gate_dst (N := 6) rfl ?_); refine box_event ?hg (N := 6) ?hd (cs := #[.int .i64 0, .int .i64 0, .int .i64 0, .int .i64 0, .int .i64 0]) (t := 74) ?hr ?_; (case hd => rfl); (case hg => rfl); (case hr => first | (go_simp; done) | (go_simp; rfl)); intro gb132 hg w2001 hbox hb; have n0_ := Aside0.mk (below_step wB hb); have n1_ := Aside0.mk (hbox); have n2_ := Aside0.mk ((by rw [hg]; exact (below_size wB) : w.heap.size ≤ gb132)); have n3_ := Aside0.mk ((by rw [hg]; exact (below_size wB) : w.heap.size ≤ gb132)); clear HB; have HB := n0_; have BK132 := n1_; have GW132 := n2_; have GE132 := n3_; clear n0_ n1_ n2_ n3_; clear hb hbox hg; obtain ⟨⟨hcz2002_0, hcz2002_1, hcz2002_2, hcz2002_3, hcz2002_4⟩, hfz2002_0, hfz2002_1, hfz2002_2, hfz2002_3, hfz2002_4⟩ := cells5 BK132.out) | ((with_reducible refine gate_store (t := 74) (p := 6) rfl ?_); refine store_event (t := 74) (p := 6) (v := ?_) (w1 := (((((w2001.setCell ⟨gb132, 0, none⟩ (.int .i64 ((rd_T74 l0 x5_1).f0.f0))).setCell ⟨gb132, 1, none⟩ (.int .i64 ((rd_T74 l0 x5_1).f0.f1))).setCell ⟨gb132, 2, none⟩ (.int .i64 ((rd_T74 l0 x5_1).f1))).setCell ⟨gb132, 3, none⟩ (.int .i64 ((rd_T74 l0 x5_1).f2))).setCell ⟨gb132, 4, none⟩ (.int .i64 ((rd_T74 l0 x5_1).f3)))) ?hg ?ho ?hn ?hr ?_; (case ho => rfl); (case hg => rfl); (case hn => rfl); (case hr => first | (go_simp; done) | (go_simp; rfl)); intro w2003 hw; have n0_ : Aside0 (w2003.heap[gb132]? = some (.cells #[.int .i64 ((rd_T74 l0 x5_1).f0.f0), .int .i64 ((rd_T74 l0 x5_1).f0.f1), .int .i64 ((rd_T74 l0 x5_1).f1), .int .i64 ((rd_T74 l0 x5_1).f2), .int .i64 ((rd_T74 l0 x5_1).f3)] 74 (0, 0))) := ⟨(by rw [hw]; exact (by (with_reducible repeat (first | refine blk_drewN ?_ _ | refine blk_drew ?_ | refine blk_alloc ?_ _)); refine blk_put (cs := #[.int .i64 ((rd_T74 l0 x5_1).f0.f0), .int .i64 ((rd_T74 l0 x5_1).f0.f1), .int .i64 ((rd_T74 l0 x5_1).f1), .int .i64 ((rd_T74 l0 x5_1).f2), .int .i64 0]) ?_ 4 _ rfl; (with_reducible repeat (first | refine blk_drewN ?_ _ | refine blk_drew ?_ | refine blk_alloc ?_ _)); refine blk_put (cs := #[.int .i64 ((rd_T74 l0 x5_1).f0.f0), .int .i64 ((rd_T74 l0 x5_1).f0.f1), .int .i64 ((rd_T74 l0 x5_1).f1), .int .i64 0, .int .i64 0]) ?_ 3 _ rfl; (with_reducible repeat (first | refine blk_drewN ?_ _ | refine blk_drew ?_ | refine blk_alloc ?_ _)); refine blk_put (cs := #[.int .i64 ((rd_T74 l0 x5_1).f0.f0), .int .i64 ((rd_T74 l0 x5_1).f0.f1), .int .i64 0, .int .i64 0, .int .i64 0]) ?_ 2 _ rfl; (with_reducible repeat (first | refine blk_drewN ?_ _ | refine blk_drew ?_ | refine blk_alloc ?_ _)); refine blk_put (cs := #[.int .i64 ((rd_T74 l0 x5_1).f0.f0), .int .i64 0, .int .i64 0, .int .i64 0, .int .i64 0]) ?_ 1 _ rfl; (with_reducible repeat (first | refine blk_drewN ?_ _ | refine blk_drew ?_ | refine blk_alloc ?_ _)); refine blk_put (cs := #[.int .i64 0, .int .i64 0, .int .i64 0, .int .i64 0, .int .i64 0]) ?_ 0 _ rfl; (with_reducible repeat (first | refine blk_drewN ?_ _ | refine blk_drew ?_ | refine blk_alloc ?_ _)); exact BK132.out))⟩; have n1_ : Aside0 (Below w.heap.size w w2003) := ⟨(by rw [hw]; exact wB)⟩; clear hw; clear BK132; clear HB; have BK132 := n0_; have HB := n1_; clear n0_ n1_; obtain ⟨⟨hcz2004_0, hcz2004_1, hcz2004_2, hcz2004_3, hcz2004_4⟩, hfz2004_0, hfz2004_1, hfz2004_2, hfz2004_3, hfz2004_4⟩ := cells5 BK132.out) | ((with_reducible refine gate_callee (f := 52) rfl ?_); refine goesL_ (some 25) rfl rfl Tryd.func52 (by kernel_rfl) rfl #[.agg #[.int .i64 ((rd_T74 l0 x5_1).f0.f0), .int .i64 ((rd_T74 l0 x5_1).f0.f1), .int .i64 ((rd_T74 l0 x5_1).f1), .int .i64 ((rd_T74 l0 x5_1).f2), .int .i64 ((rd_T74 l0 x5_1).f3)]] rfl wT ?_; (with_reducible refine (spec_l08OK.calls k1 ((rd_T74 l0 x5_1).f0.f0) ((rd_T74 l0 x5_1).f0.f1) ((rd_T74 l0 x5_1).f1) ((rd_T74 l0 x5_1).f2) ((rd_T74 l0 x5_1).f3) false _ A1003.out).mono ?_); rintro e w2005 ⟨rfl, hb⟩; refine ⟨_, rfl, ?_⟩; have n0_ := Aside0.mk (blk_below (Bh BK132) hb); have n1_ := Aside0.mk (below_step wB hb); clear BK132; clear HB; have BK132 := n0_; have HB := n1_; clear n0_ n1_; (try clear hb); (try clear hb2); (try clear hk); (try clear hi)))
 go_ret2
 exact ⟨by first | rfl | (simp [errW_none, errW_some] <;> rfl) | (simp [*, errW_none, errW_some] <;> rfl), wB⟩
 }
 {
 go_wp2
 go_ret2
 exact ⟨by first | rfl | (simp [errW_none, errW_some] <;> rfl) | (simp [*, errW_none, errW_some] <;> rfl), wB⟩
 }
 }
 )
 }

/-! ### laws_toPrefix: function 26 -/
def laws_toPrefix.f (a0_0 : Int) (a0_1 : Int) : Option (Int × Int) := some (a0_0, a0_1)
set_option maxHeartbeats 60000000 in
set_option maxRecDepth 100000 in
theorem laws_toPrefix.calls (a0_0 : Int) (a0_1 : Int) (r1 : Int) (r2 : Int) (w : World) (h : laws_toPrefix.f a0_0 a0_1 = some (r1, r2)) :
    Calls Tryd.prog 26 #[.agg #[.int .i64 a0_0, .int .i64 a0_1]] w fun e w' => e = .returned (.agg #[.int .i64 r1, .int .i64 r2]) ∧ Below w.heap.size w w' := by
  have hu43 := Tryd.underlying43
  have hu36 := Tryd.underlying36
  have HB := Aside0.mk (Below.refl w.heap.size w)
  have H : (some (a0_0, a0_1)) = some (r1, r2) := h
  clear h
  simp only [Option.some.injEq, Prod.mk.injEq] at H
  obtain ⟨rfl, rfl⟩ := H
  go_enter Tryd.func26, Tryd.ntmps26
  go_wp2_with (first | ((with_reducible refine gate_dst (N := 1) rfl ?_); refine box_event ?hg (N := 1) ?hd (cs := #[.int .i64 a0_0, .int .i64 a0_1]) (t := 43) ?hr ?_; (case hd => rfl); (case hg => rfl); (case hr => first | (go_simp; done) | (go_simp; rfl)); intro gb142 hg w1001 hbox hb; have n0_ := Aside0.mk (below_step wB hb); have n1_ := Aside0.mk (hbox); have n2_ := Aside0.mk ((by rw [hg]; exact (below_size wB) : w.heap.size ≤ gb142)); have n3_ := Aside0.mk ((by rw [hg]; exact (below_size wB) : w.heap.size ≤ gb142)); clear HB; have HB := n0_; have BK142 := n1_; have GW142 := n2_; have GE142 := n3_; clear n0_ n1_ n2_ n3_; clear hb hbox hg) | ((with_reducible refine gate_dst (N := 2) rfl ?_); refine box_event ?hg (N := 2) ?hd (cs := #[.int .i64 0, .int .i64 0]) (t := 36) ?hr ?_; (case hd => rfl); (case hg => rfl); (case hr => first | (go_simp; done) | (go_simp; rfl)); intro gb143 hg w1002 hbox hb; have n0_ := Aside0.mk (blk_below (Bh BK142) hb); have n1_ := Aside0.mk (below_step wB hb); have n2_ := Aside0.mk (hbox); have n3_ := Aside0.mk ((by rw [hg]; exact (below_size wB) : w.heap.size ≤ gb143)); have n4_ := Aside0.mk ((by rw [hg]; exact (below_size wB) : w.heap.size ≤ gb143)); have n5_ := Aside0.mk ((by rw [hg]; exact Nat.ne_of_lt (blk_lt (Bh BK142)) : gb142 ≠ gb143)); have n6_ := Aside0.mk ((by rw [hg]; exact Nat.ne_of_gt (blk_lt (Bh BK142)) : gb143 ≠ gb142)); clear BK142; clear HB; have BK142 := n0_; have HB := n1_; have BK143 := n2_; have GW143 := n3_; have GE143 := n4_; have NB142_143 := n5_; have NB143_142 := n6_; clear n0_ n1_ n2_ n3_ n4_ n5_ n6_; clear hb hbox hg) | ((with_reducible refine gate_dst (N := 3) rfl ?_); refine box_event ?hg (N := 3) ?hd (cs := #[.int .i64 0, .int .i64 0]) (t := 36) ?hr ?_; (case hd => rfl); (case hg => rfl); (case hr => first | (go_simp; done) | (go_simp; rfl)); intro gb144 hg w1003 hbox hb; have n0_ := Aside0.mk (blk_below (Bh BK142) hb); have n1_ := Aside0.mk (blk_below (Bh BK143) hb); have n2_ := Aside0.mk (below_step wB hb); have n3_ := Aside0.mk (hbox); have n4_ := Aside0.mk ((by rw [hg]; exact (below_size wB) : w.heap.size ≤ gb144)); have n5_ := Aside0.mk ((by rw [hg]; exact (below_size wB) : w.heap.size ≤ gb144)); have n6_ := Aside0.mk ((by rw [hg]; exact Nat.ne_of_lt (blk_lt (Bh BK142)) : gb142 ≠ gb144)); have n7_ := Aside0.mk ((by rw [hg]; exact Nat.ne_of_gt (blk_lt (Bh BK142)) : gb144 ≠ gb142)); have n8_ := Aside0.mk ((by rw [hg]; exact Nat.ne_of_lt (blk_lt (Bh BK143)) : gb143 ≠ gb144)); have n9_ := Aside0.mk ((by rw [hg]; exact Nat.ne_of_gt (blk_lt (Bh BK143)) : gb144 ≠ gb143)); clear BK142; clear BK143; clear HB; have BK142 := n0_; have BK143 := n1_; have HB := n2_; have BK144 := n3_; have GW144 := n4_; have GE144 := n5_; have NB142_144 := n6_; have NB144_142 := n7_; have NB143_144 := n8_; have NB144_143 := n9_; clear n0_ n1_ n2_ n3_ n4_ n5_ n6_ n7_ n8_ n9_; clear hb hbox hg; have hnb1004 := NB142_143.out; have hnc1004 := NB143_142.out; have hnb1005 := NB142_144.out; have hnc1005 := NB144_142.out; obtain ⟨⟨hcz1006_0, hcz1006_1⟩, hfz1006_0, hfz1006_1⟩ := cells2 BK142.out; have hnb1007 := NB144_143.out; have hnc1007 := NB143_144.out; obtain ⟨⟨hcz1008_0, hcz1008_1⟩, hfz1008_0, hfz1008_1⟩ := cells2 BK144.out) | ((with_reducible refine gate_store (t := 2) (p := 9) rfl ?_); refine store_event (t := 2) (p := 9) (v := ?_) (w1 := ((w1003.setCell ⟨gb144, 0, none⟩ (.int .i64 a0_0)).setCell ⟨gb144, 1, none⟩ (.int .i64 a0_1))) ?hg ?ho ?hn ?hr ?_; (case ho => rfl); (case hg => rfl); (case hn => rfl); (case hr => first | (go_simp; done) | (go_simp; rfl)); intro w1009 hw; have n0_ : Aside0 (w1009.heap[gb142]? = some (.cells #[.int .i64 a0_0, .int .i64 a0_1] 43 (0, 0))) := ⟨(by rw [hw]; exact (by (with_reducible repeat (first | refine blk_drewN ?_ _ | refine blk_drew ?_ | refine blk_alloc ?_ _)); refine blk_far ?_ NB142_144.out _; (with_reducible repeat (first | refine blk_drewN ?_ _ | refine blk_drew ?_ | refine blk_alloc ?_ _)); refine blk_far ?_ NB142_144.out _; (with_reducible repeat (first | refine blk_drewN ?_ _ | refine blk_drew ?_ | refine blk_alloc ?_ _)); exact BK142.out))⟩; have n1_ : Aside0 (w1009.heap[gb143]? = some (.cells #[.int .i64 0, .int .i64 0] 36 (0, 0))) := ⟨(by rw [hw]; exact (by (with_reducible repeat (first | refine blk_drewN ?_ _ | refine blk_drew ?_ | refine blk_alloc ?_ _)); refine blk_far ?_ NB143_144.out _; (with_reducible repeat (first | refine blk_drewN ?_ _ | refine blk_drew ?_ | refine blk_alloc ?_ _)); refine blk_far ?_ NB143_144.out _; (with_reducible repeat (first | refine blk_drewN ?_ _ | refine blk_drew ?_ | refine blk_alloc ?_ _)); exact BK143.out))⟩; have n2_ : Aside0 (w1009.heap[gb144]? = some (.cells #[.int .i64 a0_0, .int .i64 a0_1] 36 (0, 0))) := ⟨(by rw [hw]; exact (by (with_reducible repeat (first | refine blk_drewN ?_ _ | refine blk_drew ?_ | refine blk_alloc ?_ _)); refine blk_put (cs := #[.int .i64 a0_0, .int .i64 0]) ?_ 1 _ rfl; (with_reducible repeat (first | refine blk_drewN ?_ _ | refine blk_drew ?_ | refine blk_alloc ?_ _)); refine blk_put (cs := #[.int .i64 0, .int .i64 0]) ?_ 0 _ rfl; (with_reducible repeat (first | refine blk_drewN ?_ _ | refine blk_drew ?_ | refine blk_alloc ?_ _)); exact BK144.out))⟩; have n3_ : Aside0 (Below w.heap.size w w1009) := ⟨(by rw [hw]; exact wB)⟩; clear hw; clear BK142; clear BK143; clear BK144; clear HB; have BK142 := n0_; have BK143 := n1_; have BK144 := n2_; have HB := n3_; clear n0_ n1_ n2_ n3_; obtain ⟨⟨hcz1010_0, hcz1010_1⟩, hfz1010_0, hfz1010_1⟩ := cells2 BK144.out; obtain ⟨⟨hcz1011_0, hcz1011_1⟩, hfz1011_0, hfz1011_1⟩ := cells2 BK143.out) | ((with_reducible refine gate_store (t := 36) (p := 2) rfl ?_); refine store_event (t := 36) (p := 2) (v := ?_) (w1 := ((w1009.setCell ⟨gb143, 0, none⟩ (.int .i64 a0_0)).setCell ⟨gb143, 1, none⟩ (.int .i64 a0_1))) ?hg ?ho ?hn ?hr ?_; (case ho => rfl); (case hg => rfl); (case hn => rfl); (case hr => first | (go_simp; done) | (go_simp; rfl)); intro w1012 hw; have n0_ : Aside0 (w1012.heap[gb142]? = some (.cells #[.int .i64 a0_0, .int .i64 a0_1] 43 (0, 0))) := ⟨(by rw [hw]; exact (by (with_reducible repeat (first | refine blk_drewN ?_ _ | refine blk_drew ?_ | refine blk_alloc ?_ _)); refine blk_far ?_ NB142_143.out _; (with_reducible repeat (first | refine blk_drewN ?_ _ | refine blk_drew ?_ | refine blk_alloc ?_ _)); refine blk_far ?_ NB142_143.out _; (with_reducible repeat (first | refine blk_drewN ?_ _ | refine blk_drew ?_ | refine blk_alloc ?_ _)); exact BK142.out))⟩; have n1_ : Aside0 (w1012.heap[gb143]? = some (.cells #[.int .i64 a0_0, .int .i64 a0_1] 36 (0, 0))) := ⟨(by rw [hw]; exact (by (with_reducible repeat (first | refine blk_drewN ?_ _ | refine blk_drew ?_ | refine blk_alloc ?_ _)); refine blk_put (cs := #[.int .i64 a0_0, .int .i64 0]) ?_ 1 _ rfl; (with_reducible repeat (first | refine blk_drewN ?_ _ | refine blk_drew ?_ | refine blk_alloc ?_ _)); refine blk_put (cs := #[.int .i64 0, .int .i64 0]) ?_ 0 _ rfl; (with_reducible repeat (first | refine blk_drewN ?_ _ | refine blk_drew ?_ | refine blk_alloc ?_ _)); exact BK143.out))⟩; have n2_ : Aside0 (w1012.heap[gb144]? = some (.cells #[.int .i64 a0_0, .int .i64 a0_1] 36 (0, 0))) := ⟨(by rw [hw]; exact (by (with_reducible repeat (first | refine blk_drewN ?_ _ | refine blk_drew ?_ | refine blk_alloc ?_ _)); refine blk_far ?_ NB144_143.out _; (with_reducible repeat (first | refine blk_drewN ?_ _ | refine blk_drew ?_ | refine blk_alloc ?_ _)); refine blk_far ?_ NB144_143.out _; (with_reducible repeat (first | refine blk_drewN ?_ _ | refine blk_drew ?_ | refine blk_alloc ?_ _)); exact BK144.out))⟩; have n3_ : Aside0 (Below w.heap.size w w1012) := ⟨(by rw [hw]; exact wB)⟩; clear hw; clear BK142; clear BK143; clear BK144; clear HB; have BK142 := n0_; have BK143 := n1_; have BK144 := n2_; have HB := n3_; clear n0_ n1_ n2_ n3_))
  refine bodyPost_ret (results_cell_row rfl _ _ gb143 36 #[.int .i64 a0_0, .int .i64 a0_1] (0, 0) _ rfl (Bh BK143) Tryd.underlying36 rfl (by kernel_rfl)) rfl ?_
  exact ⟨by first | rfl | (simp [errW_none, errW_some] <;> rfl) | (simp [*, errW_none, errW_some] <;> rfl), wB⟩

/-! ### laws_toRoute: function 53 -/
def laws_toRoute.f (a0_0 : Int) (a0_1 : Int) (a0_2 : Int) (a0_3 : Int) (a0_4 : Int) : Option (Int × Int × Int × Int × Int) := (laws_toPrefix.f a0_0 a0_1).bind fun bt148 => (some (bt148.1, bt148.2, a0_2, a0_3, a0_4))
set_option maxHeartbeats 60000000 in
set_option maxRecDepth 100000 in
theorem laws_toRoute.calls (a0_0 : Int) (a0_1 : Int) (a0_2 : Int) (a0_3 : Int) (a0_4 : Int) (r1 : Int) (r2 : Int) (r3 : Int) (r4 : Int) (r5 : Int) (w : World) (h : laws_toRoute.f a0_0 a0_1 a0_2 a0_3 a0_4 = some (r1, r2, r3, r4, r5)) :
    Calls Tryd.prog 53 #[.agg #[.int .i64 a0_0, .int .i64 a0_1, .int .i64 a0_2, .int .i64 a0_3, .int .i64 a0_4]] w fun e w' => e = .returned (.agg #[.int .i64 r1, .int .i64 r2, .int .i64 r3, .int .i64 r4, .int .i64 r5]) ∧ Below w.heap.size w w' := by
  have hu78 := Tryd.underlying78
  have hu74 := Tryd.underlying74
  have hu43 := Tryd.underlying43
  have hu36 := Tryd.underlying36
  have HB := Aside0.mk (Below.refl w.heap.size w)
  have H : ((laws_toPrefix.f a0_0 a0_1).bind fun bt148 => (some (bt148.1, bt148.2, a0_2, a0_3, a0_4))) = some (r1, r2, r3, r4, r5) := h
  clear h
  replace H := Option.bind_eq_some_iff.mp H
  obtain ⟨⟨t148, t149⟩, A20, H⟩ := H
  replace H : (some (t148, t149, a0_2, a0_3, a0_4)) = some (r1, r2, r3, r4, r5) := H
  have A2 := Aside0.mk A20
  clear A20
  simp only [Option.some.injEq, Prod.mk.injEq] at H
  obtain ⟨rfl, rfl, rfl, rfl, rfl⟩ := H
  go_enter Tryd.func53, Tryd.ntmps53
  go_wp2_with (first | ((with_reducible refine gate_dst (N := 1) rfl ?_); refine box_event ?hg (N := 1) ?hd (cs := #[.int .i64 a0_0, .int .i64 a0_1, .int .i64 a0_2, .int .i64 a0_3, .int .i64 a0_4]) (t := 78) ?hr ?_; (case hd => rfl); (case hg => rfl); (case hr => first | (go_simp; done) | (go_simp; rfl)); intro gb145 hg w1001 hbox hb; have n0_ := Aside0.mk (below_step wB hb); have n1_ := Aside0.mk (hbox); have n2_ := Aside0.mk ((by rw [hg]; exact (below_size wB) : w.heap.size ≤ gb145)); have n3_ := Aside0.mk ((by rw [hg]; exact (below_size wB) : w.heap.size ≤ gb145)); clear HB; have HB := n0_; have BK145 := n1_; have GW145 := n2_; have GE145 := n3_; clear n0_ n1_ n2_ n3_; clear hb hbox hg) | ((with_reducible refine gate_dst (N := 2) rfl ?_); refine box_event ?hg (N := 2) ?hd (cs := #[.int .i64 0, .int .i64 0, .int .i64 0, .int .i64 0, .int .i64 0]) (t := 74) ?hr ?_; (case hd => rfl); (case hg => rfl); (case hr => first | (go_simp; done) | (go_simp; rfl)); intro gb146 hg w1002 hbox hb; have n0_ := Aside0.mk (blk_below (Bh BK145) hb); have n1_ := Aside0.mk (below_step wB hb); have n2_ := Aside0.mk (hbox); have n3_ := Aside0.mk ((by rw [hg]; exact (below_size wB) : w.heap.size ≤ gb146)); have n4_ := Aside0.mk ((by rw [hg]; exact (below_size wB) : w.heap.size ≤ gb146)); have n5_ := Aside0.mk ((by rw [hg]; exact Nat.ne_of_lt (blk_lt (Bh BK145)) : gb145 ≠ gb146)); have n6_ := Aside0.mk ((by rw [hg]; exact Nat.ne_of_gt (blk_lt (Bh BK145)) : gb146 ≠ gb145)); clear BK145; clear HB; have BK145 := n0_; have HB := n1_; have BK146 := n2_; have GW146 := n3_; have GE146 := n4_; have NB145_146 := n5_; have NB146_145 := n6_; clear n0_ n1_ n2_ n3_ n4_ n5_ n6_; clear hb hbox hg) | ((with_reducible refine gate_dst (N := 3) rfl ?_); refine box_event ?hg (N := 3) ?hd (cs := #[.int .i64 0, .int .i64 0, .int .i64 0, .int .i64 0, .int .i64 0]) (t := 74) ?hr ?_; (case hd => rfl); (case hg => rfl); (case hr => first | (go_simp; done) | (go_simp; rfl)); intro gb147 hg w1003 hbox hb; have n0_ := Aside0.mk (blk_below (Bh BK145) hb); have n1_ := Aside0.mk (blk_below (Bh BK146) hb); have n2_ := Aside0.mk (below_step wB hb); have n3_ := Aside0.mk (hbox); have n4_ := Aside0.mk ((by rw [hg]; exact (below_size wB) : w.heap.size ≤ gb147)); have n5_ := Aside0.mk ((by rw [hg]; exact (below_size wB) : w.heap.size ≤ gb147)); have n6_ := Aside0.mk ((by rw [hg]; exact Nat.ne_of_lt (blk_lt (Bh BK145)) : gb145 ≠ gb147)); have n7_ := Aside0.mk ((by rw [hg]; exact Nat.ne_of_gt (blk_lt (Bh BK145)) : gb147 ≠ gb145)); have n8_ := Aside0.mk ((by rw [hg]; exact Nat.ne_of_lt (blk_lt (Bh BK146)) : gb146 ≠ gb147)); have n9_ := Aside0.mk ((by rw [hg]; exact Nat.ne_of_gt (blk_lt (Bh BK146)) : gb147 ≠ gb146)); clear BK145; clear BK146; clear HB; have BK145 := n0_; have BK146 := n1_; have HB := n2_; have BK147 := n3_; have GW147 := n4_; have GE147 := n5_; have NB145_147 := n6_; have NB147_145 := n7_; have NB146_147 := n8_; have NB147_146 := n9_; clear n0_ n1_ n2_ n3_ n4_ n5_ n6_ n7_ n8_ n9_; clear hb hbox hg; have hnb1004 := NB145_146.out; have hnc1004 := NB146_145.out; have hnb1005 := NB145_147.out; have hnc1005 := NB147_145.out; obtain ⟨⟨hcz1006_0, hcz1006_1, hcz1006_2, hcz1006_3, hcz1006_4⟩, hfz1006_0, hfz1006_1, hfz1006_2, hfz1006_3, hfz1006_4⟩ := cells5 BK145.out) | ((with_reducible refine gate_callee (f := 26) rfl ?_); refine goesL_ (some 6) rfl rfl Tryd.func26 (by kernel_rfl) rfl #[.agg #[.int .i64 a0_0, .int .i64 a0_1]] rfl wT ?_; (with_reducible refine (laws_toPrefix.calls a0_0 a0_1 t148 t149 _ A2.out).mono ?_); rintro e w1007 ⟨rfl, hb⟩; refine ⟨_, rfl, ?_⟩; have n0_ := Aside0.mk (blk_below (Bh BK145) hb); have n1_ := Aside0.mk (blk_below (Bh BK146) hb); have n2_ := Aside0.mk (blk_below (Bh BK147) hb); have n3_ := Aside0.mk (below_step wB hb); clear BK145; clear BK146; clear BK147; clear HB; have BK145 := n0_; have BK146 := n1_; have BK147 := n2_; have HB := n3_; clear n0_ n1_ n2_ n3_; (try clear hb); (try clear hb2); (try clear hk); (try clear hi); have hnb1008 := NB147_146.out; have hnc1008 := NB146_147.out; obtain ⟨⟨hcz1009_0, hcz1009_1, hcz1009_2, hcz1009_3, hcz1009_4⟩, hfz1009_0, hfz1009_1, hfz1009_2, hfz1009_3, hfz1009_4⟩ := cells5 BK147.out) | ((with_reducible refine gate_store (t := 36) (p := 7) rfl ?_); refine store_event (t := 36) (p := 7) (v := ?_) (w1 := ((w1007.setCell ⟨gb147, 0, none⟩ (.int .i64 t148)).setCell ⟨gb147, 1, none⟩ (.int .i64 t149))) ?hg ?ho ?hn ?hr ?_; (case ho => rfl); (case hg => rfl); (case hn => rfl); (case hr => first | (go_simp; done) | (go_simp; rfl)); intro w1010 hw; have n0_ : Aside0 (w1010.heap[gb145]? = some (.cells #[.int .i64 a0_0, .int .i64 a0_1, .int .i64 a0_2, .int .i64 a0_3, .int .i64 a0_4] 78 (0, 0))) := ⟨(by rw [hw]; exact (by (with_reducible repeat (first | refine blk_drewN ?_ _ | refine blk_drew ?_ | refine blk_alloc ?_ _)); refine blk_far ?_ NB145_147.out _; (with_reducible repeat (first | refine blk_drewN ?_ _ | refine blk_drew ?_ | refine blk_alloc ?_ _)); refine blk_far ?_ NB145_147.out _; (with_reducible repeat (first | refine blk_drewN ?_ _ | refine blk_drew ?_ | refine blk_alloc ?_ _)); exact BK145.out))⟩; have n1_ : Aside0 (w1010.heap[gb146]? = some (.cells #[.int .i64 0, .int .i64 0, .int .i64 0, .int .i64 0, .int .i64 0] 74 (0, 0))) := ⟨(by rw [hw]; exact (by (with_reducible repeat (first | refine blk_drewN ?_ _ | refine blk_drew ?_ | refine blk_alloc ?_ _)); refine blk_far ?_ NB146_147.out _; (with_reducible repeat (first | refine blk_drewN ?_ _ | refine blk_drew ?_ | refine blk_alloc ?_ _)); refine blk_far ?_ NB146_147.out _; (with_reducible repeat (first | refine blk_drewN ?_ _ | refine blk_drew ?_ | refine blk_alloc ?_ _)); exact BK146.out))⟩; have n2_ : Aside0 (w1010.heap[gb147]? = some (.cells #[.int .i64 t148, .int .i64 t149, .int .i64 0, .int .i64 0, .int .i64 0] 74 (0, 0))) := ⟨(by rw [hw]; exact (by (with_reducible repeat (first | refine blk_drewN ?_ _ | refine blk_drew ?_ | refine blk_alloc ?_ _)); refine blk_put (cs := #[.int .i64 t148, .int .i64 0, .int .i64 0, .int .i64 0, .int .i64 0]) ?_ 1 _ rfl; (with_reducible repeat (first | refine blk_drewN ?_ _ | refine blk_drew ?_ | refine blk_alloc ?_ _)); refine blk_put (cs := #[.int .i64 0, .int .i64 0, .int .i64 0, .int .i64 0, .int .i64 0]) ?_ 0 _ rfl; (with_reducible repeat (first | refine blk_drewN ?_ _ | refine blk_drew ?_ | refine blk_alloc ?_ _)); exact BK147.out))⟩; have n3_ : Aside0 (Below w.heap.size w w1010) := ⟨(by rw [hw]; exact wB)⟩; clear hw; clear BK145; clear BK146; clear BK147; clear HB; have BK145 := n0_; have BK146 := n1_; have BK147 := n2_; have HB := n3_; clear n0_ n1_ n2_ n3_; obtain ⟨⟨hcz1011_0, hcz1011_1, hcz1011_2, hcz1011_3, hcz1011_4⟩, hfz1011_0, hfz1011_1, hfz1011_2, hfz1011_3, hfz1011_4⟩ := cells5 BK145.out; obtain ⟨⟨hcz1012_0, hcz1012_1, hcz1012_2, hcz1012_3, hcz1012_4⟩, hfz1012_0, hfz1012_1, hfz1012_2, hfz1012_3, hfz1012_4⟩ := cells5 BK147.out) | ((with_reducible refine gate_store (t := 2) (p := 13) rfl ?_); refine store_event (t := 2) (p := 13) (v := ?_) (w1 := ((w1010.setCell ⟨gb147, 2, none⟩ (.int .i64 a0_2)).setCell ⟨gb147, 3, none⟩ (.int .i64 a0_3))) ?hg ?ho ?hn ?hr ?_; (case ho => rfl); (case hg => rfl); (case hn => rfl); (case hr => first | (go_simp; done) | (go_simp; rfl)); intro w1013 hw; have n0_ : Aside0 (w1013.heap[gb145]? = some (.cells #[.int .i64 a0_0, .int .i64 a0_1, .int .i64 a0_2, .int .i64 a0_3, .int .i64 a0_4] 78 (0, 0))) := ⟨(by rw [hw]; exact (by (with_reducible repeat (first | refine blk_drewN ?_ _ | refine blk_drew ?_ | refine blk_alloc ?_ _)); refine blk_far ?_ NB145_147.out _; (with_reducible repeat (first | refine blk_drewN ?_ _ | refine blk_drew ?_ | refine blk_alloc ?_ _)); refine blk_far ?_ NB145_147.out _; (with_reducible repeat (first | refine blk_drewN ?_ _ | refine blk_drew ?_ | refine blk_alloc ?_ _)); exact BK145.out))⟩; have n1_ : Aside0 (w1013.heap[gb146]? = some (.cells #[.int .i64 0, .int .i64 0, .int .i64 0, .int .i64 0, .int .i64 0] 74 (0, 0))) := ⟨(by rw [hw]; exact (by (with_reducible repeat (first | refine blk_drewN ?_ _ | refine blk_drew ?_ | refine blk_alloc ?_ _)); refine blk_far ?_ NB146_147.out _; (with_reducible repeat (first | refine blk_drewN ?_ _ | refine blk_drew ?_ | refine blk_alloc ?_ _)); refine blk_far ?_ NB146_147.out _; (with_reducible repeat (first | refine blk_drewN ?_ _ | refine blk_drew ?_ | refine blk_alloc ?_ _)); exact BK146.out))⟩; have n2_ : Aside0 (w1013.heap[gb147]? = some (.cells #[.int .i64 t148, .int .i64 t149, .int .i64 a0_2, .int .i64 a0_3, .int .i64 0] 74 (0, 0))) := ⟨(by rw [hw]; exact (by (with_reducible repeat (first | refine blk_drewN ?_ _ | refine blk_drew ?_ | refine blk_alloc ?_ _)); refine blk_put (cs := #[.int .i64 t148, .int .i64 t149, .int .i64 a0_2, .int .i64 0, .int .i64 0]) ?_ 3 _ rfl; (with_reducible repeat (first | refine blk_drewN ?_ _ | refine blk_drew ?_ | refine blk_alloc ?_ _)); refine blk_put (cs := #[.int .i64 t148, .int .i64 t149, .int .i64 0, .int .i64 0, .int .i64 0]) ?_ 2 _ rfl; (with_reducible repeat (first | refine blk_drewN ?_ _ | refine blk_drew ?_ | refine blk_alloc ?_ _)); exact BK147.out))⟩; have n3_ : Aside0 (Below w.heap.size w w1013) := ⟨(by rw [hw]; exact wB)⟩; clear hw; clear BK145; clear BK146; clear BK147; clear HB; have BK145 := n0_; have BK146 := n1_; have BK147 := n2_; have HB := n3_; clear n0_ n1_ n2_ n3_; obtain ⟨⟨hcz1014_0, hcz1014_1, hcz1014_2, hcz1014_3, hcz1014_4⟩, hfz1014_0, hfz1014_1, hfz1014_2, hfz1014_3, hfz1014_4⟩ := cells5 BK145.out; obtain ⟨⟨hcz1015_0, hcz1015_1, hcz1015_2, hcz1015_3, hcz1015_4⟩, hfz1015_0, hfz1015_1, hfz1015_2, hfz1015_3, hfz1015_4⟩ := cells5 BK147.out; obtain ⟨⟨hcz1016_0, hcz1016_1, hcz1016_2, hcz1016_3, hcz1016_4⟩, hfz1016_0, hfz1016_1, hfz1016_2, hfz1016_3, hfz1016_4⟩ := cells5 BK146.out) | ((with_reducible refine gate_store (t := 74) (p := 2) rfl ?_); refine store_event (t := 74) (p := 2) (v := ?_) (w1 := ((((((w1013.setCell ⟨gb147, 4, none⟩ (.int .i64 a0_4)).setCell ⟨gb146, 0, none⟩ (.int .i64 t148)).setCell ⟨gb146, 1, none⟩ (.int .i64 t149)).setCell ⟨gb146, 2, none⟩ (.int .i64 a0_2)).setCell ⟨gb146, 3, none⟩ (.int .i64 a0_3)).setCell ⟨gb146, 4, none⟩ (.int .i64 a0_4))) ?hg ?ho ?hn ?hr ?_; (case ho => rfl); (case hg => rfl); (case hn => rfl); (case hr => first | (go_simp; done) | (go_simp; rfl)); intro w1017 hw; have n0_ : Aside0 (w1017.heap[gb145]? = some (.cells #[.int .i64 a0_0, .int .i64 a0_1, .int .i64 a0_2, .int .i64 a0_3, .int .i64 a0_4] 78 (0, 0))) := ⟨(by rw [hw]; exact (by (with_reducible repeat (first | refine blk_drewN ?_ _ | refine blk_drew ?_ | refine blk_alloc ?_ _)); refine blk_far ?_ NB145_146.out _; (with_reducible repeat (first | refine blk_drewN ?_ _ | refine blk_drew ?_ | refine blk_alloc ?_ _)); refine blk_far ?_ NB145_146.out _; (with_reducible repeat (first | refine blk_drewN ?_ _ | refine blk_drew ?_ | refine blk_alloc ?_ _)); refine blk_far ?_ NB145_146.out _; (with_reducible repeat (first | refine blk_drewN ?_ _ | refine blk_drew ?_ | refine blk_alloc ?_ _)); refine blk_far ?_ NB145_146.out _; (with_reducible repeat (first | refine blk_drewN ?_ _ | refine blk_drew ?_ | refine blk_alloc ?_ _)); refine blk_far ?_ NB145_146.out _; (with_reducible repeat (first | refine blk_drewN ?_ _ | refine blk_drew ?_ | refine blk_alloc ?_ _)); refine blk_far ?_ NB145_147.out _; (with_reducible repeat (first | refine blk_drewN ?_ _ | refine blk_drew ?_ | refine blk_alloc ?_ _)); exact BK145.out))⟩; have n1_ : Aside0 (w1017.heap[gb146]? = some (.cells #[.int .i64 t148, .int .i64 t149, .int .i64 a0_2, .int .i64 a0_3, .int .i64 a0_4] 74 (0, 0))) := ⟨(by rw [hw]; exact (by (with_reducible repeat (first | refine blk_drewN ?_ _ | refine blk_drew ?_ | refine blk_alloc ?_ _)); refine blk_put (cs := #[.int .i64 t148, .int .i64 t149, .int .i64 a0_2, .int .i64 a0_3, .int .i64 0]) ?_ 4 _ rfl; (with_reducible repeat (first | refine blk_drewN ?_ _ | refine blk_drew ?_ | refine blk_alloc ?_ _)); refine blk_put (cs := #[.int .i64 t148, .int .i64 t149, .int .i64 a0_2, .int .i64 0, .int .i64 0]) ?_ 3 _ rfl; (with_reducible repeat (first | refine blk_drewN ?_ _ | refine blk_drew ?_ | refine blk_alloc ?_ _)); refine blk_put (cs := #[.int .i64 t148, .int .i64 t149, .int .i64 0, .int .i64 0, .int .i64 0]) ?_ 2 _ rfl; (with_reducible repeat (first | refine blk_drewN ?_ _ | refine blk_drew ?_ | refine blk_alloc ?_ _)); refine blk_put (cs := #[.int .i64 t148, .int .i64 0, .int .i64 0, .int .i64 0, .int .i64 0]) ?_ 1 _ rfl; (with_reducible repeat (first | refine blk_drewN ?_ _ | refine blk_drew ?_ | refine blk_alloc ?_ _)); refine blk_put (cs := #[.int .i64 0, .int .i64 0, .int .i64 0, .int .i64 0, .int .i64 0]) ?_ 0 _ rfl; (with_reducible repeat (first | refine blk_drewN ?_ _ | refine blk_drew ?_ | refine blk_alloc ?_ _)); refine blk_far ?_ NB146_147.out _; (with_reducible repeat (first | refine blk_drewN ?_ _ | refine blk_drew ?_ | refine blk_alloc ?_ _)); exact BK146.out))⟩; have n2_ : Aside0 (w1017.heap[gb147]? = some (.cells #[.int .i64 t148, .int .i64 t149, .int .i64 a0_2, .int .i64 a0_3, .int .i64 a0_4] 74 (0, 0))) := ⟨(by rw [hw]; exact (by (with_reducible repeat (first | refine blk_drewN ?_ _ | refine blk_drew ?_ | refine blk_alloc ?_ _)); refine blk_far ?_ NB147_146.out _; (with_reducible repeat (first | refine blk_drewN ?_ _ | refine blk_drew ?_ | refine blk_alloc ?_ _)); refine blk_far ?_ NB147_146.out _; (with_reducible repeat (first | refine blk_drewN ?_ _ | refine blk_drew ?_ | refine blk_alloc ?_ _)); refine blk_far ?_ NB147_146.out _; (with_reducible repeat (first | refine blk_drewN ?_ _ | refine blk_drew ?_ | refine blk_alloc ?_ _)); refine blk_far ?_ NB147_146.out _; (with_reducible repeat (first | refine blk_drewN ?_ _ | refine blk_drew ?_ | refine blk_alloc ?_ _)); refine blk_far ?_ NB147_146.out _; (with_reducible repeat (first | refine blk_drewN ?_ _ | refine blk_drew ?_ | refine blk_alloc ?_ _)); refine blk_put (cs := #[.int .i64 t148, .int .i64 t149, .int .i64 a0_2, .int .i64 a0_3, .int .i64 0]) ?_ 4 _ rfl; (with_reducible repeat (first | refine blk_drewN ?_ _ | refine blk_drew ?_ | refine blk_alloc ?_ _)); exact BK147.out))⟩; have n3_ : Aside0 (Below w.heap.size w w1017) := ⟨(by rw [hw]; exact wB)⟩; clear hw; clear BK145; clear BK146; clear BK147; clear HB; have BK145 := n0_; have BK146 := n1_; have BK147 := n2_; have HB := n3_; clear n0_ n1_ n2_ n3_))
  refine bodyPost_ret (results_cell_row rfl _ _ gb146 74 #[.int .i64 t148, .int .i64 t149, .int .i64 a0_2, .int .i64 a0_3, .int .i64 a0_4] (0, 0) _ rfl (Bh BK146) Tryd.underlying74 rfl (by kernel_rfl)) rfl ?_
  exact ⟨by first | rfl | (simp [errW_none, errW_some] <;> rfl) | (simp [*, errW_none, errW_some] <;> rfl), wB⟩

/-! ### laws_toRouteS: function 30 -/
def laws_toRouteS.l0 : Nat → List (S78) → List (S74) → Int → Option ((List (S74)))
  | 0, _, _, _ => none
  | k + 1, x0, x3, x4 => if x4 < (x0.length : Int) then (if 0 ≤ x4 then ((laws_toRoute.f ((rd_T78 x0 x4).f0.f0) ((rd_T78 x0 x4).f0.f1) ((rd_T78 x0 x4).f1) ((rd_T78 x0 x4).f2) ((rd_T78 x0 x4).f3)).bind fun bt154 => (if x4 < (x3.length : Int) then (laws_toRouteS.l0 k x0 (x3.set (x4 : Int).toNat (⟨(⟨bt154.1, bt154.2.1⟩ : S36), bt154.2.2.1, bt154.2.2.2.1, bt154.2.2.2.2⟩ : S74)) (wrap64 (x4 + 1))) else (none))) else (none)) else (some x3)
def laws_toRouteS.f (k : Nat) (l0 : List (S78)) : Option ((List (S74))) := if 0 ≤ (l0.length : Int) then (if ((l0.length : Int) : Int).toNat ≤ 7036874417766 then (laws_toRouteS.l0 k l0 (List.replicate ((l0.length : Int) : Int).toNat z74) 0) else (none)) else (none)
theorem laws_toRouteS.mono_l : ∀ k, (∀ y0 y1 y2, LeO (laws_toRouteS.l0 k y0 y1 y2) (laws_toRouteS.l0 (k + 1) y0 y1 y2))
  | 0 => fun _ _ _ r h => by simp [laws_toRouteS.l0] at h
  | k + 1 => by
    have ih0 := laws_toRouteS.mono_l k
    · intro y0 y1 y2
      unfold laws_toRouteS.l0
      repeat' first
      | (with_reducible exact ih0 _ _ _)
      | (with_reducible exact LeO.refl _)
      | (with_reducible exact LeO.none _)
      | (with_reducible refine LeO.ite ?_ ?_)
      | (with_reducible refine LeO.bind ?_ (fun _ => ?_))
      | exact ih0 _ _ _
      | exact LeO.none _
      | refine LeO.ite ?_ ?_
      | refine LeO.bind ?_ (fun _ => ?_)
theorem laws_toRouteS.mono : ∀ a0 k, LeO (laws_toRouteS.f k a0) (laws_toRouteS.f (k + 1) a0) := by
  intro a0 k
  have ih0 := laws_toRouteS.mono_l k
  unfold laws_toRouteS.f
  repeat' first
      | (with_reducible exact ih0 _ _ _)
      | (with_reducible exact LeO.refl _)
      | (with_reducible exact LeO.none _)
      | (with_reducible refine LeO.ite ?_ ?_)
      | (with_reducible refine LeO.bind ?_ (fun _ => ?_))
      | exact ih0 _ _ _
      | exact LeO.none _
      | refine LeO.ite ?_ ?_
      | refine LeO.bind ?_ (fun _ => ?_)
set_option maxHeartbeats 60000000 in
set_option maxRecDepth 100000 in
theorem laws_toRouteS.calls (k : Nat) (A0 : Option Addr) (c0 : Nat) (l0 : List (S78)) (r : List (S74)) (w : World) (hr0 : Kd.C k78 w A0 l0.length l0) (hc0 : l0.length ≤ c0) (h : laws_toRouteS.f k l0 = some r) :
    Calls Tryd.prog 30 #[.slice A0 l0.length c0] w fun e w' => ∃ v0_ : Value, e = .returned (v0_) ∧ Kd.R k74 74 w' w.heap.size (fun _ => True) v0_ r ∧ Below w.heap.size w w' := by
  have hu78 := Tryd.underlying78
  have hu74 := Tryd.underlying74
  have HR0 := Aside0.mk hr0
  have HC0 := Aside0.mk hc0
  clear hr0 hc0
  have HB := Aside0.mk (Below.refl w.heap.size w)
  have H : (if 0 ≤ (l0.length : Int) then (if ((l0.length : Int) : Int).toNat ≤ 7036874417766 then (laws_toRouteS.l0 k l0 (List.replicate ((l0.length : Int) : Int).toNat z74) 0) else (none)) else (none)) = some r := h
  clear h
  by_cases c2 : 0 ≤ (l0.length : Int)
  · rw [if_pos c2] at H
    have c2b0 := eq_true c2
    have c2b1 : decide (0 ≤ (l0.length : Int)) = true := decide_eq_true c2
    clear c2
    by_cases c3 : ((l0.length : Int) : Int).toNat ≤ 7036874417766
    · rw [if_pos c3] at H
      have c3b0 := eq_true c3
      have c3b1 : decide (((l0.length : Int) : Int).toNat ≤ 7036874417766) = true := decide_eq_true c3
      clear c3
      obtain ⟨y150, hy150⟩ : ∃ y_ : List (S74), y_ = (List.replicate ((l0.length : Int) : Int).toNat z74) := ⟨_, rfl⟩
      replace H : (laws_toRouteS.l0 k l0 y150 0) = some r := by first | (rw [hy150]; with_reducible exact H) | (have H2_ := (Option.bind_some _ _).symm.trans H; rw [hy150]; with_reducible exact H2_) | (have H2_ := (Option.bind_some _ _).symm.trans H; with_reducible exact H2_) | with_reducible exact H | (rw [hy150]; exact H) | exact H
      have Ny150 := Aside0.mk hy150
      clear hy150
      have H' := Aside0.mk H
      clear H
      go_enter Tryd.func30, Tryd.ntmps30
      go_wp2_with (first | ((with_reducible refine gate_dst (N := 7) rfl ?_); refine Kd.R_make k74 _ 74 rfl (N := 7) rfl 50 _ _ rfl (l0.length : Int) rfl rfl Tryd.underlying50 (.agg #[(.int .i64 0), (.int .i64 0), (.int .i64 0), (.int .i64 0), (.int .i64 0)]) 40 info74 rfl (by decide) (by omega) z74 (ok := fun _ => True) (okp := fun _ => True) (k74_mkM _ _ _ z74 ) (fun _ hk => hk) trivial (of_decide_eq_true (by first | (with_reducible assumption) | assumption)) (Nat.le_trans (Nat.mul_le_mul_right _ (of_decide_eq_true (by first | (with_reducible assumption) | assumption) : (l0.length : Int).toNat ≤ 7036874417766)) (by omega)) (Below.refl _ _) (Nat.le_refl _) ?_; intro v151 w1001 ho1002 hb hg_ hnew_; clear hg_ hnew_; (first | rw [← Ny150.out] at ho1002 | (simp only [Int.reduceToNat] at ho1002; rw [← Ny150.out] at ho1002)); have n0_ := Aside0.mk (Kd.R_lower ho1002 (below_size wB)); have n1_ := Aside0.mk (below_step wB hb); clear HB; have HO152 := n0_; have HB := n1_; clear n0_ n1_; clear hb ho1002))
      go_loopg [4] k (fun kq v4 w' => ∃ (x3_1 : List (S74)) (x4_1 : Int), v4 = .int .i64 x4_1 ∧ Aside0 (laws_toRouteS.l0 kq l0 x3_1 x4_1 = some r) ∧ Aside0 (kq ≤ k) ∧ Aside0 (Kd.R k74 74 w' w.heap.size (fun _ => True) v151 x3_1) ∧ Aside0 (Below w.heap.size w w'))
      case atStart => exact ⟨(y150), (0), (by first | rfl | (simp; done) | (simp [*]; done)), H', ⟨Nat.le_refl _⟩, ⟨Rh HO152⟩, ⟨wB⟩⟩
      case round =>
        clear H'
        try clear c2
        try clear c2b0
        try clear c2b1
        try clear p2
        try clear c3
        try clear c3b0
        try clear c3b1
        obtain ⟨x3_1, x4_1, rfl, HA, HK1, HO_3, HB⟩ := hrel
        cases gk with
        | zero => exact absurd HA.out (by simp [laws_toRouteS.l0])
        | succ k1 =>
          have H := HA.out
          clear HA
          simp only [laws_toRouteS.l0] at H
          by_cases c1003 : x4_1 < (l0.length : Int)
          · rw [if_pos c1003] at H
            have c1003b0 : decide (x4_1 < (l0.length : Int)) = true := decide_eq_true c1003
            clear c1003
            by_cases c1004 : 0 ≤ x4_1
            · rw [if_pos c1004] at H
              have c1004b0 : decide (0 ≤ x4_1) = true := decide_eq_true c1004
              clear c1004
              replace H := Option.bind_eq_some_iff.mp H
              obtain ⟨⟨t154, t155, t156, t157, t158⟩, A10050, H⟩ := H
              replace H : (if x4_1 < (x3_1.length : Int) then (laws_toRouteS.l0 k1 l0 (x3_1.set (x4_1 : Int).toNat (⟨(⟨t154, t155⟩ : S36), t156, t157, t158⟩ : S74)) (wrap64 (x4_1 + 1))) else (none)) = some r := H
              have A1005 := Aside0.mk A10050
              clear A10050
              by_cases c1006 : x4_1 < (x3_1.length : Int)
              · rw [if_pos c1006] at H
                have c1006b0 : decide (x4_1 < (x3_1.length : Int)) = true := decide_eq_true c1006
                clear c1006
                obtain ⟨y159, hy159⟩ : ∃ y_ : List (S74), y_ = (x3_1.set (x4_1 : Int).toNat (⟨(⟨t154, t155⟩ : S36), t156, t157, t158⟩ : S74)) := ⟨_, rfl⟩
                replace H : (laws_toRouteS.l0 k1 l0 y159 (wrap64 (x4_1 + 1))) = some r := by first | (rw [hy159]; with_reducible exact H) | (have H2_ := (Option.bind_some _ _).symm.trans H; rw [hy159]; with_reducible exact H2_) | (have H2_ := (Option.bind_some _ _).symm.trans H; with_reducible exact H2_) | with_reducible exact H | (rw [hy159]; exact H) | exact H
                have Ny159 := Aside0.mk hy159
                clear hy159
                have H' := Aside0.mk H
                clear H
                have p153 : 0 ≤ (x4_1 : Int) := of_decide_eq_true (by first | (with_reducible assumption) | assumption)
                have q153 : x4_1 < (l0.length : Int) := of_decide_eq_true (by first | (with_reducible assumption) | assumption)
                obtain ⟨ad153, e153, hx153_0, hx153_1, hx153_2, hx153_3, hx153_4⟩ := at_T78 HR0.out x4_1 p153 q153
                cases e153
                replace hx153_0 := (HB.out.cell (World.block_lt_of_cell? w _ hx153_0)).trans hx153_0
                replace hx153_1 := (HB.out.cell (World.block_lt_of_cell? w _ hx153_1)).trans hx153_1
                replace hx153_2 := (HB.out.cell (World.block_lt_of_cell? w _ hx153_2)).trans hx153_2
                replace hx153_3 := (HB.out.cell (World.block_lt_of_cell? w _ hx153_3)).trans hx153_3
                replace hx153_4 := (HB.out.cell (World.block_lt_of_cell? w _ hx153_4)).trans hx153_4
                replace p153 := eq_true p153
                replace q153 := eq_true q153
                go_wp2_with (first | ((with_reducible refine gate_callee (f := 53) rfl ?_); refine goesL_ (some 20) rfl rfl Tryd.func53 (by kernel_rfl) rfl #[.agg #[.int .i64 ((rd_T78 l0 x4_1).f0.f0), .int .i64 ((rd_T78 l0 x4_1).f0.f1), .int .i64 ((rd_T78 l0 x4_1).f1), .int .i64 ((rd_T78 l0 x4_1).f2), .int .i64 ((rd_T78 l0 x4_1).f3)]] rfl wT ?_; (with_reducible refine (laws_toRoute.calls ((rd_T78 l0 x4_1).f0.f0) ((rd_T78 l0 x4_1).f0.f1) ((rd_T78 l0 x4_1).f1) ((rd_T78 l0 x4_1).f2) ((rd_T78 l0 x4_1).f3) t154 t155 t156 t157 t158 _ A1005.out).mono ?_); rintro e w2001 ⟨rfl, hb⟩; refine ⟨_, rfl, ?_⟩; have n0_ := Aside0.mk (Kd.R_below (Rh HO_3) hb); have n1_ := Aside0.mk (below_step wB hb); clear HO_3; clear HB; have HO_3 := n0_; have HB := n1_; clear n0_ n1_; (try clear hb); (try clear hb2); (try clear hk); (try clear hi); have p1007 : 0 ≤ (x4_1 : Int) := of_decide_eq_true (by first | (with_reducible assumption) | assumption); have q1007 : (x4_1 : Int) < ((x3_1.length : Int) : Int) := of_decide_eq_true (by first | (with_reducible assumption) | assumption); obtain ⟨go1007, co1007, eo1007, gb1007, gl1007, cl1007, HG1007⟩ := Kd.R_form HO_3.out (by omega); (first | cases eo1007 | (injection eo1007 with ea_ en_ ec_; (first | subst ea_ | (injection ea_ with ea_; subst ea_)); subst ec_; clear en_)); have GB1007 := Aside0.mk gb1007; have GG1007 := Aside0.mk HG1007; clear gb1007 gl1007 HG1007; obtain ⟨ce1007, hcl1007, hM1007, hcc1007, hfr1007⟩ := Kd.R_elem HO_3.out z74 (x4_1 : Int) p1007 q1007; obtain rfl := k74_openM hM1007; have hx1007_0 : w2001.cell? ⟨go1007, (x4_1 : Int).toNat * 5, none⟩ = some (.int .i64 ((rd_T74 x3_1 x4_1).f0.f0)) := hcc1007 0 _ rfl; have hx1007_1 : w2001.cell? ⟨go1007, (x4_1 : Int).toNat * 5 + 1, none⟩ = some (.int .i64 ((rd_T74 x3_1 x4_1).f0.f1)) := hcc1007 1 _ rfl; have hx1007_2 : w2001.cell? ⟨go1007, (x4_1 : Int).toNat * 5 + 2, none⟩ = some (.int .i64 ((rd_T74 x3_1 x4_1).f1)) := hcc1007 2 _ rfl; have hx1007_3 : w2001.cell? ⟨go1007, (x4_1 : Int).toNat * 5 + 3, none⟩ = some (.int .i64 ((rd_T74 x3_1 x4_1).f2)) := hcc1007 3 _ rfl; have hx1007_4 : w2001.cell? ⟨go1007, (x4_1 : Int).toNat * 5 + 4, none⟩ = some (.int .i64 ((rd_T74 x3_1 x4_1).f3)) := hcc1007 4 _ rfl; have hf1007_0 : w2001.frozen? ⟨go1007, (x4_1 : Int).toNat * 5, none⟩ = false := hfr1007 0; have hf1007_1 : w2001.frozen? ⟨go1007, (x4_1 : Int).toNat * 5 + 1, none⟩ = false := hfr1007 1; have hf1007_2 : w2001.frozen? ⟨go1007, (x4_1 : Int).toNat * 5 + 2, none⟩ = false := hfr1007 2; have hf1007_3 : w2001.frozen? ⟨go1007, (x4_1 : Int).toNat * 5 + 3, none⟩ = false := hfr1007 3; have hf1007_4 : w2001.frozen? ⟨go1007, (x4_1 : Int).toNat * 5 + 4, none⟩ = false := hfr1007 4; clear hcl1007 hcc1007 hfr1007 hM1007; replace p1007 := eq_true p1007; replace q1007 := eq_true q1007; have HX2002 := Aside0.mk (show Kd.R k74 74 w2001 w.heap.size (fun _ => True) (.slice (some ⟨go1007, 0, none⟩) x3_1.length co1007) x3_1 from (Rh HO_3)); obtain ⟨ce2002, hcl2002, hM2002, hcc2002, hfr2002⟩ := Kd.R_elem HX2002.out z74 (x4_1 : Int) (of_decide_eq_true (by first | (with_reducible assumption) | assumption)) (by have h_ : (x4_1 : Int) < ((x3_1.length : Int) : Int) := of_decide_eq_true (by first | (with_reducible assumption) | assumption); first | exact h_ | (have e_ := (Kd.R_reads' HO_3.out).1; omega) | simpa using h_); obtain rfl := k74_openM hM2002; have HP2002 := Kd.R_seg HX2002.out (x4_1 : Int) (of_decide_eq_true (by first | (with_reducible assumption) | assumption)) (by have h_ : (x4_1 : Int) < ((x3_1.length : Int) : Int) := of_decide_eq_true (by first | (with_reducible assumption) | assumption); first | exact h_ | (have e_ := (Kd.R_reads' HO_3.out).1; omega) | simpa using h_) (seg := [.int .i64 t154, .int .i64 t155, .int .i64 t156, .int .i64 t157, .int .i64 t158]) (j := 0) hcl2002 hcc2002 (show 5 ≤ 5 from by decide) (x' := (⟨(⟨t154, t155⟩ : S36), t156, t157, t158⟩ : S74)) (k74_mkM _ _ _ (⟨(⟨t154, t155⟩ : S36), t156, t157, t158⟩ : S74) ) (fun _ hk => hk); have hx2002_0 := hcc2002 0 _ rfl; (try simp only [show (k74).sz = 5 from rfl, Nat.mul_one, Nat.add_zero] at hx2002_0); have hf2002_0 := hfr2002 0; (try simp only [show (k74).sz = 5 from rfl, Nat.mul_one, Nat.add_zero] at hf2002_0); have hx2002_1 := hcc2002 1 _ rfl; (try simp only [show (k74).sz = 5 from rfl, Nat.mul_one, Nat.add_zero] at hx2002_1); have hf2002_1 := hfr2002 1; (try simp only [show (k74).sz = 5 from rfl, Nat.mul_one, Nat.add_zero] at hf2002_1); have hx2002_2 := hcc2002 2 _ rfl; (try simp only [show (k74).sz = 5 from rfl, Nat.mul_one, Nat.add_zero] at hx2002_2); have hf2002_2 := hfr2002 2; (try simp only [show (k74).sz = 5 from rfl, Nat.mul_one, Nat.add_zero] at hf2002_2); have hx2002_3 := hcc2002 3 _ rfl; (try simp only [show (k74).sz = 5 from rfl, Nat.mul_one, Nat.add_zero] at hx2002_3); have hf2002_3 := hfr2002 3; (try simp only [show (k74).sz = 5 from rfl, Nat.mul_one, Nat.add_zero] at hf2002_3); have hx2002_4 := hcc2002 4 _ rfl; (try simp only [show (k74).sz = 5 from rfl, Nat.mul_one, Nat.add_zero] at hx2002_4); have hf2002_4 := hfr2002 4; (try simp only [show (k74).sz = 5 from rfl, Nat.mul_one, Nat.add_zero] at hf2002_4); clear hcl2002 hcc2002 hfr2002 hM2002) | ((with_reducible refine gate_store (t := 74) (p := 21) rfl ?_); refine store_event (t := 74) (p := 21) (v := ?_) (w1 := (((((w2001.setCell ⟨go1007, (x4_1 : Int).toNat * 5, none⟩ (.int .i64 t154)).setCell ⟨go1007, (x4_1 : Int).toNat * 5 + 1, none⟩ (.int .i64 t155)).setCell ⟨go1007, (x4_1 : Int).toNat * 5 + 2, none⟩ (.int .i64 t156)).setCell ⟨go1007, (x4_1 : Int).toNat * 5 + 3, none⟩ (.int .i64 t157)).setCell ⟨go1007, (x4_1 : Int).toNat * 5 + 4, none⟩ (.int .i64 t158))) ?hg ?ho ?hn ?hr ?_; (case ho => rfl); (case hg => rfl); (case hn => rfl); (case hr => first | (go_simp; done) | (go_simp; rfl)); intro w2003 hw; have hg : w2001.grownBy w2003 (some go1007) := (by rw [hw]; exact HP2002.2); have hp_ : Kd.R k74 74 w2003 w.heap.size (fun _ => True) (.slice (some ⟨go1007, 0, none⟩) x3_1.length co1007) y159 := (by rw [hw, Ny159.out]; exact HP2002.1); clear HP2002; have n0_ := Aside0.mk (hp_); have n1_ := Aside0.mk ((by rw [hw]; exact below_set (below_set (below_set (below_set (below_set (HB.out) GB1007.out) GB1007.out) GB1007.out) GB1007.out) GB1007.out : Below w.heap.size w w2003)); clear HO_3; clear HB; have HO_3 := n0_; have HB := n1_; clear n0_ n1_; clear hg hw hp_))
                go_roundg k1
                case measure => have := HK1.out; omega
                case rel => exact ⟨(y159), (wrap64 (x4_1 + 1)), (by first | rfl | (simp; done) | (simp [*]; done)), H', ⟨by have := HK1.out; omega⟩, ⟨Rh HO_3⟩, ⟨wB⟩⟩
              · rw [if_neg c1006] at H
                exact absurd H (by simp)
            · rw [if_neg c1004] at H
              exact absurd H (by simp)
          · rw [if_neg c1003] at H
            have c1003b0 : decide (x4_1 < (l0.length : Int)) = false := decide_eq_false c1003
            clear c1003
            obtain rfl := Option.some.inj H
            go_wp2
            go_ret
            exact ⟨_, by first | rfl | (simp [errW_none, errW_some] <;> rfl) | (simp [*, errW_none, errW_some] <;> rfl), by (with_reducible repeat (first | apply Kd.R_alloc | apply Kd.R_drewN | apply Kd.R_drew)); exact HO_3.out, wB⟩
    · rw [if_neg c3] at H
      exact absurd H (by simp)
  · rw [if_neg c2] at H
    exact absurd H (by simp)

/-! ### impl_isAddr: function 33 -/
def impl_isAddr.f (a0 : Int) : Option (Bool) := if a0 ≥ 0 then (some (decide (a0 ≤ 4294967295))) else (some false)
set_option maxHeartbeats 60000000 in
set_option maxRecDepth 100000 in
theorem impl_isAddr.calls (a0 : Int) (r : Bool) (w : World) (h : impl_isAddr.f a0 = some r) :
    Calls Tryd.prog 33 #[.int .i64 a0] w fun e w' => e = .returned (.bool r) ∧ Drawn0 w w' := by
  have H : (if a0 ≥ 0 then (some (decide (a0 ≤ 4294967295))) else (some false)) = some r := h
  clear h
  by_cases c2 : a0 ≥ 0
  · rw [if_pos c2] at H
    have c2b0 : decide (0 ≤ a0) = true := decide_eq_true c2
    clear c2
    obtain rfl := Option.some.inj H
    go_enter Tryd.func33, Tryd.ntmps33
    go_wp2
    go_ret
    exact ⟨by first | rfl | (simp; done) | (simp [*]; done), by repeat (first | exact Drawn0.refl _ | apply Drawn0.step)⟩
  · rw [if_neg c2] at H
    have c2b0 : decide (0 ≤ a0) = false := decide_eq_false c2
    clear c2
    obtain rfl := Option.some.inj H
    go_enter Tryd.func33, Tryd.ntmps33
    go_wp2
    go_ret
    exact ⟨by first | rfl | (simp; done) | (simp [*]; done), by repeat (first | exact Drawn0.refl _ | apply Drawn0.step)⟩

/-! ### impl_mask: function 68 -/
def impl_mask.f (a0 : Int) : Option (Int) := if 0 ≤ (wrap64 (32 - a0)) then (some (shl .i64 (shr .i64 4294967295 (wrap64 (32 - a0))) (wrap64 (32 - a0)))) else (none)
set_option maxHeartbeats 60000000 in
set_option maxRecDepth 100000 in
theorem impl_mask.calls (a0 : Int) (r : Int) (w : World) (h : impl_mask.f a0 = some r) :
    Calls Tryd.prog 68 #[.int .i64 a0] w fun e w' => e = .returned (.int .i64 r) ∧ Drawn0 w w' := by
  have H : (if 0 ≤ (wrap64 (32 - a0)) then (some (shl .i64 (shr .i64 4294967295 (wrap64 (32 - a0))) (wrap64 (32 - a0)))) else (none)) = some r := h
  clear h
  obtain ⟨ji2, hji2⟩ : ∃ j_ : Int, (wrap64 (32 - a0)) = j_ := ⟨_, rfl⟩
  replace H : (if 0 ≤ (ji2) then (some (shl .i64 (shr .i64 4294967295 (ji2)) (ji2))) else (none)) = some r := by first | (rw [hji2] at H; exact H) | (simp only [hji2] at H ⊢; exact H)
  have hji2w : (IntKind.i64.wrap (32 - a0)) = ji2 := (i64_w _).trans hji2
  by_cases c3 : 0 ≤ (ji2)
  · rw [if_pos c3] at H
    have c3b0 := eq_true c3
    have c3b1 : decide (0 ≤ (ji2)) = true := decide_eq_true c3
    clear c3
    obtain ⟨ji4, hji4⟩ : ∃ j_ : Int, (shr .i64 4294967295 (ji2)) = j_ := ⟨_, rfl⟩
    replace H : (some (shl .i64 (ji4) (ji2))) = some r := by first | (rw [hji4] at H; exact H) | (simp only [hji4] at H ⊢; exact H)
    have hji4_ : (4294967295 / 2 ^ min (ji2).toNat 64) = ji4 := hji4
    have hji4z : (ji2) ≤ 64 → (4294967295 / 2 ^ (ji2).toNat) = ji4 := shr_small hji4
    have c5b0 := eq_true (of_decide_eq_true (by first | (with_reducible assumption) | assumption) : 0 ≤ (ji2))
    obtain ⟨ji6, hji6⟩ : ∃ j_ : Int, (shl .i64 (ji4) (ji2)) = j_ := ⟨_, rfl⟩
    replace H : (some ji6) = some r := by first | (rw [hji6] at H; exact H) | (simp only [hji6] at H ⊢; exact H)
    have hji6_ : (IntKind.i64.wrap ((ji4) * 2 ^ min (ji2).toNat 64)) = ji6 := hji6
    have hji6z : (ji2) ≤ 64 → (IntKind.i64.wrap ((ji4) * 2 ^ (ji2).toNat)) = ji6 := shl_small hji6
    have hji6y : (wrap64 ((ji4) * 2 ^ min (ji2).toNat 64)) = ji6 := (i64_w _).symm.trans hji6_
    have hji6x : (ji2) ≤ 64 → (wrap64 ((ji4) * 2 ^ (ji2).toNat)) = ji6 := fun h_ => (i64_w _).symm.trans (hji6z h_)
    obtain rfl := Option.some.inj H
    go_enter Tryd.func68, Tryd.ntmps68
    go_wp2
    go_ret
    exact ⟨by first | rfl | (simp; done) | (simp only [← hji2, ← hji4, ← hji6] <;> (first | rfl | simp)) | (simp [*]; done), by repeat (first | exact Drawn0.refl _ | apply Drawn0.step)⟩
  · rw [if_neg c3] at H
    exact absurd H (by simp)

end Go.Proofs.YtnnplkhjmdbmbaaDoor.PFnExactShowRoutes
