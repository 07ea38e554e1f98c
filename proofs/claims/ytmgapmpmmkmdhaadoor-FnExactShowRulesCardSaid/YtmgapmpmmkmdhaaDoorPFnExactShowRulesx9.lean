-- Written for this claim by a program of this session (wip/mkprint.py: the print, turned at a few places). Not trusted: Lean checks it.
import Derived.Test.YtmgapmpmmkmdhaaDoorPFnExactShowRulesx0
import Derived.Test.YtmgapmpmmkmdhaaDoorPFnExactShowRulesx1
import Derived.Test.YtmgapmpmmkmdhaaDoorPFnExactShowRulesx4
import Derived.Test.YtmgapmpmmkmdhaaDoorPFnExactShowRulesx5
import Derived.Test.YtmgapmpmmkmdhaaDoorPFnExactShowRulesx8
namespace Go.Proofs.YtmgapmpmmkmdhaaDoor.PFnExactShowRules
open Go.RowKit Go.Proofs.YtmgapmpmmkmdhaaDoorW.PrintWords Go.Proofs.YtmgapmpmmkmdhaaDoorW.PrintLast Go.Proofs.YtmgapmpmmkmdhaaDoorW.PrintMore
attribute [local go_sem] max2_int min2_int max_two min_two max_three min_three max_four min_four   -- for this text's walks alone
set_option linter.unusedVariables false
set_option linter.unusedSimpArgs false

/-! ### laws_FnExactShowRules: function 3 -/
def laws_FnExactShowRules.j0 : Nat → List (S41) → List (S33) → Bool → Option (Bool)
  | 0, _, _, _ => none
  | k + 1, x0, x6, x34 => if x34 = true then (some false) else ((laws_toRuleS.f k x0).bind fun t234 => ((laws_eqRuleS.f k x6 t234).bind fun t237 => (if t237 = true then (some true) else (some false))))
def laws_FnExactShowRules.f (k : Nat) (l0 : List (S41)) : Option (Bool) := (laws_szRuleS.f l0 1048576).bind fun t223 => (if t223 < 0 then (some true) else ((laws_toRuleS.f k l0).bind fun t224 => ((spec_ShowRules.f k t224).bind fun bt227 => ((laws_toRuleS.f k l0).bind fun t229 => ((impl_ShowRules.f k t229).bind fun bt232 => (if bt232.1.toList = bt227.1.toList then (laws_FnExactShowRules.j0 k l0 t229 (bt232.2 != bt227.2)) else (laws_FnExactShowRules.j0 k l0 t229 true)))))))
theorem laws_FnExactShowRules.mono_l : ∀ k, (∀ y0 y1 y2, LeO (laws_FnExactShowRules.j0 k y0 y1 y2) (laws_FnExactShowRules.j0 (k + 1) y0 y1 y2))
  | 0 => fun _ _ _ r h => by simp [laws_FnExactShowRules.j0] at h
  | k + 1 => by
    have ih0 := laws_FnExactShowRules.mono_l k
    · intro y0 y1 y2
      unfold laws_FnExactShowRules.j0
      repeat' first
      | (with_reducible exact ih0 _ _ _)
      | (with_reducible exact impl_ShowRules.mono _ _)
      | (with_reducible exact laws_eqRuleS.mono _ _ _)
      | (with_reducible exact laws_toRuleS.mono _ _)
      | (with_reducible exact spec_ShowRules.mono _ _)
      | (with_reducible exact LeO.refl _)
      | (with_reducible exact LeO.none _)
      | (with_reducible refine LeO.ite ?_ ?_)
      | (with_reducible refine LeO.bind ?_ (fun _ => ?_))
      | exact ih0 _ _ _
      | exact impl_ShowRules.mono _ _
      | exact laws_eqRuleS.mono _ _ _
      | exact laws_toRuleS.mono _ _
      | exact spec_ShowRules.mono _ _
      | exact LeO.none _
      | refine LeO.ite ?_ ?_
      | refine LeO.bind ?_ (fun _ => ?_)
theorem laws_FnExactShowRules.mono : ∀ a0 k, LeO (laws_FnExactShowRules.f k a0) (laws_FnExactShowRules.f (k + 1) a0) := by
  intro a0 k
  have ih0 := laws_FnExactShowRules.mono_l k
  unfold laws_FnExactShowRules.f
  repeat' first
      | (with_reducible exact ih0 _ _ _)
      | (with_reducible exact impl_ShowRules.mono _ _)
      | (with_reducible exact laws_eqRuleS.mono _ _ _)
      | (with_reducible exact laws_toRuleS.mono _ _)
      | (with_reducible exact spec_ShowRules.mono _ _)
      | (with_reducible exact LeO.refl _)
      | (with_reducible exact LeO.none _)
      | (with_reducible refine LeO.ite ?_ ?_)
      | (with_reducible refine LeO.bind ?_ (fun _ => ?_))
      | exact ih0 _ _ _
      | exact impl_ShowRules.mono _ _
      | exact laws_eqRuleS.mono _ _ _
      | exact laws_toRuleS.mono _ _
      | exact spec_ShowRules.mono _ _
      | exact LeO.none _
      | refine LeO.ite ?_ ?_
      | refine LeO.bind ?_ (fun _ => ?_)
set_option maxHeartbeats 60000000 in
set_option maxRecDepth 100000 in
theorem laws_FnExactShowRules.calls (k : Nat) (A0 : Option Addr) (c0 : Nat) (l0 : List (S41)) (r : Bool) (w : World) (hr0 : Kd.C k41 w A0 l0.length l0) (hc0 : l0.length ≤ c0) (hd : Door w) (h : laws_FnExactShowRules.f k l0 = some r) :
    Calls Tryd.prog 3 #[.slice A0 l0.length c0] w fun e w' => e = .returned (.bool r) ∧ Below w.heap.size w w' := by
  have HR0 := Aside0.mk hr0
  have HC0 := Aside0.mk hc0
  clear hr0 hc0
  have HD := Aside0.mk hd
  clear hd
  have HB := Aside0.mk (Below.refl w.heap.size w)
  have H : ((laws_szRuleS.f l0 1048576).bind fun t223 => (if t223 < 0 then (some true) else ((laws_toRuleS.f k l0).bind fun t224 => ((spec_ShowRules.f k t224).bind fun bt227 => ((laws_toRuleS.f k l0).bind fun t229 => ((impl_ShowRules.f k t229).bind fun bt232 => (if bt232.1.toList = bt227.1.toList then (laws_FnExactShowRules.j0 k l0 t229 (bt232.2 != bt227.2)) else (laws_FnExactShowRules.j0 k l0 t229 true)))))))) = some r := h
  clear h
  replace H := Option.bind_eq_some_iff.mp H
  obtain ⟨t223, A20, H⟩ := H
  replace H : (if t223 < 0 then (some true) else ((laws_toRuleS.f k l0).bind fun t224 => ((spec_ShowRules.f k t224).bind fun bt227 => ((laws_toRuleS.f k l0).bind fun t229 => ((impl_ShowRules.f k t229).bind fun bt232 => (if bt232.1.toList = bt227.1.toList then (laws_FnExactShowRules.j0 k l0 t229 (bt232.2 != bt227.2)) else (laws_FnExactShowRules.j0 k l0 t229 true))))))) = some r := H
  have A2 := Aside0.mk A20
  clear A20
  by_cases c3 : t223 < 0
  · rw [if_pos c3] at H
    have c3b0 : decide (t223 < 0) = true := decide_eq_true c3
    clear c3
    obtain rfl := Option.some.inj H
    go_enter Tryd.func3, Tryd.ntmps3
    go_wp2_with (first | ((with_reducible refine gate_callee (f := 4) rfl ?_); refine goesL_ (some 11) rfl rfl Tryd.func4 (by kernel_rfl) rfl #[.slice A0 l0.length c0, .int .i64 1048576] rfl wT ?_; (with_reducible refine (laws_szRuleS.calls _ _ l0 1048576 t223 _ ?side1 ?side2 A2.out).mono ?_); (case side1 => repeat (first | exact HR0.out | (with_reducible refine Kd.C_alloc ?_ _) | (with_reducible refine Kd.C_drewN ?_ _) | (with_reducible refine Kd.C_drew ?_))); (case side2 => exact HC0.out); rintro e w' ⟨rfl, ⟨nd, rfl⟩⟩; refine ⟨_, rfl, ?_⟩))
    go_ret
    exact ⟨by first | rfl | (simp [errW_none, errW_some] <;> rfl) | (simp [*, errW_none, errW_some] <;> rfl), wB⟩
  · rw [if_neg c3] at H
    have c3b0 : decide (t223 < 0) = false := decide_eq_false c3
    clear c3
    replace H := Option.bind_eq_some_iff.mp H
    obtain ⟨t224, A40, H⟩ := H
    replace H : ((spec_ShowRules.f k t224).bind fun bt227 => ((laws_toRuleS.f k l0).bind fun t229 => ((impl_ShowRules.f k t229).bind fun bt232 => (if bt232.1.toList = bt227.1.toList then (laws_FnExactShowRules.j0 k l0 t229 (bt232.2 != bt227.2)) else (laws_FnExactShowRules.j0 k l0 t229 true))))) = some r := H
    have A4 := Aside0.mk A40
    clear A40
    replace H := Option.bind_eq_some_iff.mp H
    obtain ⟨⟨t227, t228⟩, A50, H⟩ := H
    replace H : ((laws_toRuleS.f k l0).bind fun t229 => ((impl_ShowRules.f k t229).bind fun bt232 => (if bt232.1.toList = t227.toList then (laws_FnExactShowRules.j0 k l0 t229 (bt232.2 != t228)) else (laws_FnExactShowRules.j0 k l0 t229 true)))) = some r := H
    have A5 := Aside0.mk A50
    clear A50
    replace H := Option.bind_eq_some_iff.mp H
    obtain ⟨t229, A60, H⟩ := H
    replace H : ((impl_ShowRules.f k t229).bind fun bt232 => (if bt232.1.toList = t227.toList then (laws_FnExactShowRules.j0 k l0 t229 (bt232.2 != t228)) else (laws_FnExactShowRules.j0 k l0 t229 true))) = some r := H
    have A6 := Aside0.mk A60
    clear A60
    replace H := Option.bind_eq_some_iff.mp H
    obtain ⟨⟨t232, t233⟩, A70, H⟩ := H
    replace H : (if t232.toList = t227.toList then (laws_FnExactShowRules.j0 k l0 t229 (t233 != t228)) else (laws_FnExactShowRules.j0 k l0 t229 true)) = some r := H
    have A7 := Aside0.mk A70
    clear A70
    have HC8 := Aside0.mk H
    clear H
    go_enter Tryd.func3, Tryd.ntmps3
    go_upto_region 8 with (first | ((with_reducible refine gate_callee (f := 4) rfl ?_); refine goesL_ (some 11) rfl rfl Tryd.func4 (by kernel_rfl) rfl #[.slice A0 l0.length c0, .int .i64 1048576] rfl wT ?_; (with_reducible refine (laws_szRuleS.calls _ _ l0 1048576 t223 _ ?side1 ?side2 A2.out).mono ?_); (case side1 => repeat (first | exact HR0.out | (with_reducible refine Kd.C_alloc ?_ _) | (with_reducible refine Kd.C_drewN ?_ _) | (with_reducible refine Kd.C_drew ?_))); (case side2 => exact HC0.out); rintro e w' ⟨rfl, ⟨nd, rfl⟩⟩; refine ⟨_, rfl, ?_⟩) | ((with_reducible refine gate_callee (f := 6) rfl ?_); refine goesL_ (some 16) rfl rfl Tryd.func6 (by kernel_rfl) rfl #[.slice A0 l0.length c0] rfl wT ?_; (with_reducible refine (laws_toRuleS.calls k _ _ l0 t224 _ ?side1 ?side2 A4.out).mono ?_); (case side1 => repeat (first | exact HR0.out | (with_reducible refine Kd.C_alloc ?_ _) | (with_reducible refine Kd.C_drewN ?_ _) | (with_reducible refine Kd.C_drew ?_))); (case side2 => exact HC0.out); rintro e w1001 ⟨v225, rfl, ho0, hb⟩; refine ⟨_, rfl, ?_⟩; have n0_ := Aside0.mk (Kd.R_lower ho0 (below_size wB)); have n1_ := Aside0.mk (below_step wB hb); clear HB; have HO226 := n0_; have HB := n1_; clear n0_ n1_; (try clear hb); (try clear hb2); (try clear hk); (try clear hi); (try clear ho0); obtain ⟨Ao1002, co1002, eo1002⟩ := Kd.R_slice HO226.out; subst eo1002) | ((with_reducible refine gate_callee (f := 5) rfl ?_); refine goesL_ (some 17) rfl rfl Tryd.func5 (by kernel_rfl) rfl #[.slice Ao1002 t224.length co1002] rfl wT ?_; (with_reducible refine (spec_ShowRules.calls k _ _ t224 t227 t228 _ ?side1 ?side2 A5.out).mono ?_); (case side1 => exact Ch HO226); (case side2 => exact (Kd.R_reads' HO226.out).2.1); rintro e w1003 ⟨rfl, hb⟩; refine ⟨_, rfl, ?_⟩; have n0_ := Aside0.mk (Kd.R_below (Rh HO226) hb); have n1_ := Aside0.mk (below_step wB hb); clear HO226; clear HB; have HO226 := n0_; have HB := n1_; clear n0_ n1_; (try clear hb); (try clear hb2); (try clear hk); (try clear hi)) | ((with_reducible refine gate_callee (f := 6) rfl ?_); refine goesL_ (some 21) rfl rfl Tryd.func6 (by kernel_rfl) rfl #[.slice A0 l0.length c0] rfl wT ?_; (with_reducible refine (laws_toRuleS.calls k _ _ l0 t229 _ ?side1 ?side2 A6.out).mono ?_); (case side1 => exact Kd.C_below HR0.out wB); (case side2 => exact HC0.out); rintro e w1004 ⟨v230, rfl, ho0, hb⟩; refine ⟨_, rfl, ?_⟩; have n0_ := Aside0.mk (Kd.R_elder' (Rh HO226) (Kd.R_base ho0) hb); have n1_ := Aside0.mk (Kd.R_lower (Kd.R_new' ho0 (Kd.R_lt (Rh HO226))) (below_size wB)); have n2_ := Aside0.mk (below_step wB hb); clear HO226; clear HB; have HO226 := n0_; have HO231 := n1_; have HB := n2_; clear n0_ n1_ n2_; (try clear hb); (try clear hb2); (try clear hk); (try clear hi); (try clear ho0); obtain ⟨Ao1005, co1005, eo1005⟩ := Kd.R_slice HO231.out; subst eo1005) | ((with_reducible refine gate_callee (f := 7) rfl ?_); refine goesL_ (some 24) rfl rfl Tryd.func7 (by kernel_rfl) rfl #[.slice Ao1005 t229.length co1005] rfl wT ?_; (with_reducible refine (impl_ShowRules.calls k _ _ t229 t232 t233 _ ?side1 ?side2 ?side3 A7.out).mono ?_); (case side1 => exact Ch HO231); (case side2 => exact (Kd.R_reads' HO231.out).2.1); (case side3 => repeat (first | exact (Door.c_below HD.out HB.out) | (with_reducible refine Door.c_alloc ?_ _) | (with_reducible refine Door.c_drewN ?_ _) | (with_reducible refine Door.c_drew ?_))); rintro e w1006 ⟨rfl, hb⟩; refine ⟨_, rfl, ?_⟩; have n0_ := Aside0.mk (Kd.R_below (Rh HO226) hb); have n1_ := Aside0.mk (Kd.R_below (Rh HO231) hb); have n2_ := Aside0.mk (below_step wB hb); clear HO226; clear HO231; clear HB; have HO226 := n0_; have HO231 := n1_; have HB := n2_; clear n0_ n1_ n2_; (try clear hb); (try clear hb2); (try clear hk); (try clear hi)))
    (try simp only [Act.put, List.setIfInBounds_toArray, List.set_cons_zero, List.set_cons_succ])
    go_cut [34] (fun v34 wc => ∃ (kq : Nat) (x34_7 : Bool), v34 = .bool x34_7 ∧ Aside0 (laws_FnExactShowRules.j0 kq l0 t229 x34_7 = some r) ∧ Aside0 (kq ≤ k) ∧ Aside0 (Kd.R k33 33 wc w.heap.size (fun _ => True) (.slice Ao1005 t229.length co1005) t229) ∧ Aside0 (Below w.heap.size w wc))
    case first =>
      have H := HC8.out
      clear HC8
      by_cases c1007 : t232.toList = t227.toList
      · rw [if_pos c1007] at H
        have c1007b0 : (t232.toList == t227.toList) = true := beq_iff_eq.mpr c1007
        have c1007b1 : (t232.toList != t227.toList) = false := bne_eq_false_iff_eq.mpr c1007
        clear c1007
        (first | rw [c1007b0] | (simp only [i64_w, i32_w]; rw [c1007b0]) | skip)
        have H' := Aside0.mk H
        clear H
        go_wp2
        go_meet
        case rel => exact ⟨_, ((t233 != t228)), (by first | rfl | (simp; done) | (simp [*]; done)), H', ⟨by first | omega | exact Nat.le_refl _⟩, ⟨Kd.R_mono (Rh HO231) (fun _ hk => trivial)⟩, ⟨wB⟩⟩
      · rw [if_neg c1007] at H
        have c1007b0 : (t232.toList == t227.toList) = false := beq_eq_false_iff_ne.mpr c1007
        have c1007b1 : (t232.toList != t227.toList) = true := bne_iff_ne.mpr c1007
        (first | rw [c1007b0] | (simp only [i64_w, i32_w]; rw [c1007b0]) | skip)
        have H' := Aside0.mk H
        clear H
        go_wp2
        go_meet
        case rel => exact ⟨_, (true), (by first | rfl | (simp; done) | (simp [*]; done)), H', ⟨by first | omega | exact Nat.le_refl _⟩, ⟨Kd.R_mono (Rh HO231) (fun _ hk => trivial)⟩, ⟨wB⟩⟩
    case rest =>
      clear HC8
      try clear c0
      try clear c3
      try clear c3b0
      try clear c1007
      try clear c1007b0
      try clear c1007b1
      obtain ⟨kq, x34_7, rfl, HA, HJ7, HO_6, HB⟩ := hcut
      cases kq with
      | zero => exact absurd HA.out (by simp [laws_FnExactShowRules.j0])
      | succ kj7 =>
        have H := HA.out
        clear HA
        simp only [laws_FnExactShowRules.j0] at H
        by_cases c1008 : x34_7 = true
        · subst c1008
          have H1 : (some false) = some r := by rw [if_pos rfl] at H; exact H
          clear H
          have H := H1
          clear H1
          obtain rfl := Option.some.inj H
          go_wp2
          go_ret
          exact ⟨by first | rfl | (simp [errW_none, errW_some] <;> rfl) | (simp [*, errW_none, errW_some] <;> rfl), wB⟩
        · replace c1008 := Bool.eq_false_iff.mpr c1008
          subst c1008
          have H1 : ((laws_toRuleS.f kj7 l0).bind fun t234 => ((laws_eqRuleS.f kj7 t229 t234).bind fun t237 => (if t237 = true then (some true) else (some false)))) = some r := by rw [if_neg (show ¬ (false = true) by decide)] at H; exact H
          clear H
          have H := H1
          clear H1
          replace H := Option.bind_eq_some_iff.mp H
          obtain ⟨t234, A10090, H⟩ := H
          replace H : ((laws_eqRuleS.f kj7 t229 t234).bind fun t237 => (if t237 = true then (some true) else (some false))) = some r := H
          have A1009 := Aside0.mk A10090
          clear A10090
          replace H := Option.bind_eq_some_iff.mp H
          obtain ⟨t237, A10100, H⟩ := H
          replace H : (if t237 = true then (some true) else (some false)) = some r := H
          have A1010 := Aside0.mk A10100
          clear A10100
          by_cases c1011 : t237 = true
          · subst c1011
            have H1 : (some true) = some r := by rw [if_pos rfl] at H; exact H
            clear H
            have H := H1
            clear H1
            obtain rfl := Option.some.inj H
            go_wp2_with (first | ((with_reducible refine gate_callee (f := 6) rfl ?_); refine goesL_ (some 37) rfl rfl Tryd.func6 (by kernel_rfl) rfl #[.slice A0 l0.length c0] rfl wT ?_; (with_reducible refine (laws_toRuleS.calls kj7 _ _ l0 t234 _ ?side1 ?side2 A1009.out).mono ?_); (case side1 => exact Kd.C_below HR0.out wB); (case side2 => exact HC0.out); rintro e w2001 ⟨v235, rfl, ho0, hb⟩; refine ⟨_, rfl, ?_⟩; have n0_ := Aside0.mk (Kd.R_elder' (Rh HO_6) (Kd.R_base ho0) hb); have n1_ := Aside0.mk (Kd.R_lower (Kd.R_new' ho0 (Kd.R_lt (Rh HO_6))) (below_size wB)); have n2_ := Aside0.mk (below_step wB hb); clear HO_6; clear HB; have HO_6 := n0_; have HO236 := n1_; have HB := n2_; clear n0_ n1_ n2_; (try clear hb); (try clear hb2); (try clear hk); (try clear hi); (try clear ho0); obtain ⟨Ao2002, co2002, eo2002⟩ := Kd.R_slice HO236.out; subst eo2002) | ((with_reducible refine gate_callee (f := 8) rfl ?_); refine goesL_ (some 38) rfl rfl Tryd.func8 (by kernel_rfl) rfl #[.slice Ao1005 t229.length co1005, .slice Ao2002 t234.length co2002] rfl wT ?_; (with_reducible refine (laws_eqRuleS.calls kj7 _ _ t229 _ _ t234 true _ ?side1 ?side2 ?side3 ?side4 A1010.out).mono ?_); (case side1 => exact Ch HO_6); (case side2 => exact (Kd.R_reads' HO_6.out).2.1); (case side3 => exact Ch HO236); (case side4 => exact (Kd.R_reads' HO236.out).2.1); rintro e w2003 ⟨rfl, hb⟩; refine ⟨_, rfl, ?_⟩; have n0_ := Aside0.mk (Kd.R_below (Rh HO_6) hb); have n1_ := Aside0.mk (Kd.R_below (Rh HO236) hb); have n2_ := Aside0.mk (below_step wB hb); clear HO_6; clear HO236; clear HB; have HO_6 := n0_; have HO236 := n1_; have HB := n2_; clear n0_ n1_ n2_; (try clear hb); (try clear hb2); (try clear hk); (try clear hi)))
            go_ret
            exact ⟨by first | rfl | (simp [errW_none, errW_some] <;> rfl) | (simp [*, errW_none, errW_some] <;> rfl), wB⟩
          · replace c1011 := Bool.eq_false_iff.mpr c1011
            subst c1011
            have H1 : (some false) = some r := by rw [if_neg (show ¬ (false = true) by decide)] at H; exact H
            clear H
            have H := H1
            clear H1
            obtain rfl := Option.some.inj H
            go_wp2_with (first | ((with_reducible refine gate_callee (f := 6) rfl ?_); refine goesL_ (some 37) rfl rfl Tryd.func6 (by kernel_rfl) rfl #[.slice A0 l0.length c0] rfl wT ?_; (with_reducible refine (laws_toRuleS.calls kj7 _ _ l0 t234 _ ?side1 ?side2 A1009.out).mono ?_); (case side1 => exact Kd.C_below HR0.out wB); (case side2 => exact HC0.out); rintro e w2001 ⟨v235, rfl, ho0, hb⟩; refine ⟨_, rfl, ?_⟩; have n0_ := Aside0.mk (Kd.R_elder' (Rh HO_6) (Kd.R_base ho0) hb); have n1_ := Aside0.mk (Kd.R_lower (Kd.R_new' ho0 (Kd.R_lt (Rh HO_6))) (below_size wB)); have n2_ := Aside0.mk (below_step wB hb); clear HO_6; clear HB; have HO_6 := n0_; have HO236 := n1_; have HB := n2_; clear n0_ n1_ n2_; (try clear hb); (try clear hb2); (try clear hk); (try clear hi); (try clear ho0); obtain ⟨Ao2002, co2002, eo2002⟩ := Kd.R_slice HO236.out; subst eo2002) | ((with_reducible refine gate_callee (f := 8) rfl ?_); refine goesL_ (some 38) rfl rfl Tryd.func8 (by kernel_rfl) rfl #[.slice Ao1005 t229.length co1005, .slice Ao2002 t234.length co2002] rfl wT ?_; (with_reducible refine (laws_eqRuleS.calls kj7 _ _ t229 _ _ t234 false _ ?side1 ?side2 ?side3 ?side4 A1010.out).mono ?_); (case side1 => exact Ch HO_6); (case side2 => exact (Kd.R_reads' HO_6.out).2.1); (case side3 => exact Ch HO236); (case side4 => exact (Kd.R_reads' HO236.out).2.1); rintro e w2003 ⟨rfl, hb⟩; refine ⟨_, rfl, ?_⟩; have n0_ := Aside0.mk (Kd.R_below (Rh HO_6) hb); have n1_ := Aside0.mk (Kd.R_below (Rh HO236) hb); have n2_ := Aside0.mk (below_step wB hb); clear HO_6; clear HO236; clear HB; have HO_6 := n0_; have HO236 := n1_; have HB := n2_; clear n0_ n1_ n2_; (try clear hb); (try clear hb2); (try clear hk); (try clear hi)))
            go_ret
            exact ⟨by first | rfl | (simp [errW_none, errW_some] <;> rfl) | (simp [*, errW_none, errW_some] <;> rfl), wB⟩

end Go.Proofs.YtmgapmpmmkmdhaaDoor.PFnExactShowRules
