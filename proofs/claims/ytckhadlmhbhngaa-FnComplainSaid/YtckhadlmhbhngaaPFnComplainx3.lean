-- Written for this claim by a program of this session (wip/mkprint.py: the print, turned at a few places). Not trusted: Lean checks it.
import Derived.Test.YtckhadlmhbhngaaPFnComplainx0
namespace Go.Proofs.Ytckhadlmhbhngaa.PFnComplain
open Go.RowKit Go.Proofs.YtckhadlmhbhngaaW.PrintWords Go.Proofs.YtckhadlmhbhngaaW.PrintLast Go.Proofs.YtckhadlmhbhngaaW.PrintMore
attribute [local go_sem] max2_int min2_int max_two min_two max_three min_three max_four min_four   -- for this text's walks alone
set_option linter.unusedVariables false
set_option linter.unusedSimpArgs false

/-! ### impl_isAddr: function 51 -/
def impl_isAddr.f (a0 : Int) : Option (Bool) := if a0 ≥ 0 then (some (decide (a0 ≤ 4294967295))) else (some false)
set_option maxHeartbeats 60000000 in
set_option maxRecDepth 100000 in
theorem impl_isAddr.calls (a0 : Int) (r : Bool) (w : World) (h : impl_isAddr.f a0 = some r) :
 Calls Try.prog 51 #[.int .i64 a0] w fun e w' => e = .returned (.bool r) ∧ Drawn0 w w' := by
 have H : (if a0 ≥ 0 then (some (decide (a0 ≤ 4294967295))) else (some false)) = some r := h
 clear h
 by_cases c2 : a0 ≥ 0
 {
 rw [if_pos c2] at H
 have c2b0 : decide (0 ≤ a0) = true := decide_eq_true c2
 clear c2
 obtain rfl := Option.some.inj H
 go_enter Try.func51, Try.ntmps51
 go_wp2
 go_ret
 exact ⟨by first | rfl | (simp; done) | (simp [*]; done), by repeat (first | exact Drawn0.refl _ | apply Drawn0.step)⟩
 }
 {
 rw [if_neg c2] at H
 have c2b0 : decide (0 ≤ a0) = false := decide_eq_false c2
 clear c2
 obtain rfl := Option.some.inj H
 go_enter Try.func51, Try.ntmps51
 go_wp2
 go_ret
 exact ⟨by first | rfl | (simp; done) | (simp [*]; done), by repeat (first | exact Drawn0.refl _ | apply Drawn0.step)⟩
 }

/-! ### impl_okIP: function 70 -/
def impl_okIP.f (ab : Int) (ac : Int) (al : Bool) (am : Bool) (aa : Int) (ad : Int) (ae : Int) (ag : Int) (ah : Int) (af : List Int) (ak : List Int) : Option (Bool) := if ab ≥ 0 then (if ab ≤ 255 then (if ad ≥ 0 then (if ad ≤ 255 then (if ae ≥ 0 then (if ae ≤ 255 then (if ac ≥ 0 then (if ac ≤ 65535 then (if aa ≥ 0 then (if aa ≤ 65528 then (if (Int.tmod aa 8) = 0 then ((impl_isAddr.f ag).bind fun ai => (if ai = true then ((impl_isAddr.f ah).bind fun aj => (if aj = true then (if (af.length : Int) ≤ 40 then (some (((af.length : Int) % 4) == 0)) else (some false)) else (some false))) else (some false))) else (some false)) else (some false)) else (some false)) else (some false)) else (some false)) else (some false)) else (some false)) else (some false)) else (some false)) else (some false)) else (some false)
set_option maxHeartbeats 60000000 in
set_option maxRecDepth 100000 in
theorem impl_okIP.calls (ac : Int) (ad : Int) (ap : Bool) (aq : Bool) (aa : Int) (ae : Int) (af : Int) (ai : Int) (ah : Int) (A0_9 : Option Addr) (ar : Nat) (ab : List Int) (A0_10 : Option Addr) (ao : Nat) (ag : List Int) (r : Bool) (w : World) (hr0_9 : Kd.C (Kd.int .u8) w A0_9 ab.length ab) (hc0_9 : ab.length ≤ ar) (hr0_10 : Kd.C (Kd.int .u8) w A0_10 ag.length ag) (hc0_10 : ag.length ≤ ao) (h : impl_okIP.f ac ad ap aq aa ae af ai ah ab ag = some r) :
 Calls Try.prog 70 #[.agg #[.int .i64 ac, .int .i64 ad, .bool ap, .bool aq, .int .i64 aa, .int .i64 ae, .int .i64 af, .int .i64 ai, .int .i64 ah, .slice A0_9 ab.length ar, .slice A0_10 ag.length ao]] w fun e w' => e = .returned (.bool r) ∧ Below w.heap.size w w' := by
 have hu25 := Try.underlying25
 have HR0_9 := Aside0.mk hr0_9
 have aX := Aside0.mk hc0_9
 clear hr0_9 hc0_9
 have HR0_10 := Aside0.mk hr0_10
 have aW := Aside0.mk hc0_10
 clear hr0_10 hc0_10
 have HB := Aside0.mk (Below.refl w.heap.size w)
 have H : (if ac ≥ 0 then (if ac ≤ 255 then (if ae ≥ 0 then (if ae ≤ 255 then (if af ≥ 0 then (if af ≤ 255 then (if ad ≥ 0 then (if ad ≤ 65535 then (if aa ≥ 0 then (if aa ≤ 65528 then (if (Int.tmod aa 8) = 0 then ((impl_isAddr.f ai).bind fun au => (if au = true then ((impl_isAddr.f ah).bind fun aj => (if aj = true then (if (ab.length : Int) ≤ 40 then (some (((ab.length : Int) % 4) == 0)) else (some false)) else (some false))) else (some false))) else (some false)) else (some false)) else (some false)) else (some false)) else (some false)) else (some false)) else (some false)) else (some false)) else (some false)) else (some false)) else (some false)) = some r := h
 clear h
 by_cases c2 : ac ≥ 0
 rw [if_pos c2] at H
 have c2b0 : decide (0 ≤ ac) = true := decide_eq_true c2
 clear c2
 by_cases c3 : ac ≤ 255
 rw [if_pos c3] at H
 have c3b0 : decide (ac ≤ 255) = true := decide_eq_true c3
 clear c3
 by_cases c4 : ae ≥ 0
 rw [if_pos c4] at H
 have c4b0 : decide (0 ≤ ae) = true := decide_eq_true c4
 clear c4
 by_cases c5 : ae ≤ 255
 rw [if_pos c5] at H
 have c5b0 : decide (ae ≤ 255) = true := decide_eq_true c5
 clear c5
 by_cases c6 : af ≥ 0
 rw [if_pos c6] at H
 have c6b0 : decide (0 ≤ af) = true := decide_eq_true c6
 clear c6
 by_cases c7 : af ≤ 255
 rw [if_pos c7] at H
 have c7b0 : decide (af ≤ 255) = true := decide_eq_true c7
 clear c7
 by_cases c8 : ad ≥ 0
 rw [if_pos c8] at H
 have c8b0 : decide (0 ≤ ad) = true := decide_eq_true c8
 clear c8
 by_cases c9 : ad ≤ 65535
 rw [if_pos c9] at H
 have c9b0 : decide (ad ≤ 65535) = true := decide_eq_true c9
 clear c9
 by_cases al : aa ≥ 0
 rw [if_pos al] at H
 have c10b0 : decide (0 ≤ aa) = true := decide_eq_true al
 clear al
 by_cases am : aa ≤ 65528
 rw [if_pos am] at H
 have c11b0 : decide (aa ≤ 65528) = true := decide_eq_true am
 clear am
 by_cases ak : (Int.tmod aa 8) = 0
 rw [if_pos ak] at H
 have c12b0 : ((Int.tmod aa 8) == 0) = true := beq_iff_eq.mpr ak
 have c12b1 : ((Int.tmod aa 8) != 0) = false := bne_eq_false_iff_eq.mpr ak
 clear ak
 replace H := Option.bind_eq_some_iff.mp H
 obtain ⟨au, A130, H⟩ := H
 have A13 := Aside0.mk A130
 clear A130
 by_cases av : au = true
 subst av
 have H1 : ((impl_isAddr.f ah).bind fun aj => (if aj = true then (if (ab.length : Int) ≤ 40 then (some (((ab.length : Int) % 4) == 0)) else (some false)) else (some false))) = some r := by rw [if_pos rfl] at H; exact H
 clear H
 have H := H1
 clear H1
 replace H := Option.bind_eq_some_iff.mp H
 obtain ⟨aj, A150, H⟩ := H
 have A15 := Aside0.mk A150
 clear A150
 by_cases aw : aj = true
 subst aw
 have H1 : (if (ab.length : Int) ≤ 40 then (some (((ab.length : Int) % 4) == 0)) else (some false)) = some r := by rw [if_pos rfl] at H; exact H
 clear H
 have H := H1
 clear H1
 by_cases an : (ab.length : Int) ≤ 40
 rw [if_pos an] at H
 have c17b0 : decide ((ab.length : Int) ≤ 40) = true := decide_eq_true an
 have c17b1 : decide (ab.length ≤ 40) = true := decide_eq_true (by omega)
 clear an
 obtain rfl := Option.some.inj H
 rotate_left
 rw [if_neg an] at H
 have c17b0 : decide ((ab.length : Int) ≤ 40) = false := decide_eq_false an
 have c17b1 : decide (ab.length ≤ 40) = false := decide_eq_false (by omega)
 clear an
 obtain rfl := Option.some.inj H
 rotate_left
 replace aw := Bool.eq_false_iff.mpr aw
 subst aw
 have H1 : (some false) = some r := by rw [if_neg (show ¬ (false = true) by decide)] at H; exact H
 clear H
 have H := H1
 clear H1
 obtain rfl := Option.some.inj H
 rotate_left
 replace av := Bool.eq_false_iff.mpr av
 subst av
 have H1 : (some false) = some r := by rw [if_neg (show ¬ (false = true) by decide)] at H; exact H
 clear H
 have H := H1
 clear H1
 obtain rfl := Option.some.inj H
 rotate_left
 rw [if_neg ak] at H
 have c12b0 : ((Int.tmod aa 8) == 0) = false := beq_eq_false_iff_ne.mpr ak
 have c12b1 : ((Int.tmod aa 8) != 0) = true := bne_iff_ne.mpr ak
 obtain rfl := Option.some.inj H
 rotate_left
 rw [if_neg am] at H
 have c11b0 : decide (aa ≤ 65528) = false := decide_eq_false am
 clear am
 obtain rfl := Option.some.inj H
 rotate_left
 rw [if_neg al] at H
 have c10b0 : decide (0 ≤ aa) = false := decide_eq_false al
 clear al
 obtain rfl := Option.some.inj H
 rotate_left
 rw [if_neg c9] at H
 have c9b0 : decide (ad ≤ 65535) = false := decide_eq_false c9
 clear c9
 obtain rfl := Option.some.inj H
 rotate_left
 rw [if_neg c8] at H
 have c8b0 : decide (0 ≤ ad) = false := decide_eq_false c8
 clear c8
 obtain rfl := Option.some.inj H
 rotate_left
 rw [if_neg c7] at H
 have c7b0 : decide (af ≤ 255) = false := decide_eq_false c7
 clear c7
 obtain rfl := Option.some.inj H
 rotate_left
 rw [if_neg c6] at H
 have c6b0 : decide (0 ≤ af) = false := decide_eq_false c6
 clear c6
 obtain rfl := Option.some.inj H
 rotate_left
 rw [if_neg c5] at H
 have c5b0 : decide (ae ≤ 255) = false := decide_eq_false c5
 clear c5
 obtain rfl := Option.some.inj H
 rotate_left
 rw [if_neg c4] at H
 have c4b0 : decide (0 ≤ ae) = false := decide_eq_false c4
 clear c4
 obtain rfl := Option.some.inj H
 rotate_left
 rw [if_neg c3] at H
 have c3b0 : decide (ac ≤ 255) = false := decide_eq_false c3
 clear c3
 obtain rfl := Option.some.inj H
 rotate_left
 rw [if_neg c2] at H
 have c2b0 : decide (0 ≤ ac) = false := decide_eq_false c2
 clear c2
 obtain rfl := Option.some.inj H
 rotate_left
 all_goals (
 go_enter Try.func70, Try.ntmps70
 go_wp2_with (first | ((with_reducible refine gate_dst (N := 1) rfl ?_); (try (refine gate_guard (by rfl) ?_; dsimp only)); refine boxE 1 #[.int .i64 ac, .int .i64 ad, .bool ap, .bool aq, .int .i64 aa, .int .i64 ae, .int .i64 af, .int .i64 ai, .int .i64 ah, .slice A0_9 ab.length ar, .slice A0_10 ag.length ao] 25 ?_; intro ax hg aY hbox hb; have ay := Aside0.mk (hbox); have az := Aside0.mk ((by rw [hg]; exact (below_size wB) : w.heap.size ≤ ax)); replace HB := Aside0.mk (below_step wB hb); have aZ := az; clear hb hbox hg; obtain ⟨⟨aC, aD, aE, aF, aG, aH, aI, aJ, aK, aL, aA⟩, aM, aN, aO, aP, aQ, aR, aS, aT, aU, aV, aB⟩ := cells11 ay.out) | (go_at_call 51; (with_reducible refine (impl_isAddr.calls ai _ _ A13.out).mono ?_); rintro e w' ⟨rfl, ⟨nd, rfl⟩⟩) | (go_at_call 51; (with_reducible refine (impl_isAddr.calls ah _ _ A15.out).mono ?_); rintro e w' ⟨rfl, ⟨nd, rfl⟩⟩))
 go_ret
 exact ⟨eR, wB⟩
 )

/-! ### impl_codeIP: function 41 -/
def impl_codeIP.f (ad : Int) (ae : Int) (af : Bool) (ag : Bool) (ab : Int) (ah : Int) (ai : Int) (aj : Int) (ak : Int) (ac : List Int) (aa : List Int) : Option (Int) := (impl_okIP.f ad ae af ag ab ah ai aj ak ac aa).bind fun al => (if al = true then (if (wrap64 ((wrap64 (20 + (ac.length : Int))) + (aa.length : Int))) > 65535 then (some 7) else (if (wrap64 (ab + (aa.length : Int))) > 65535 then (some 7) else (some 0))) else (some 1))
set_option maxHeartbeats 60000000 in
set_option maxRecDepth 100000 in
theorem impl_codeIP.calls (ae : Int) (af : Int) (ag : Bool) (ah : Bool) (ac : Int) (ai : Int) (aj : Int) (ak : Int) (al : Int) (A0_9 : Option Addr) (an : Nat) (ab : List Int) (A0_10 : Option Addr) (am : Nat) (aa : List Int) (r : Int) (w : World) (hr0_9 : Kd.C (Kd.int .u8) w A0_9 ab.length ab) (hc0_9 : ab.length ≤ an) (hr0_10 : Kd.C (Kd.int .u8) w A0_10 aa.length aa) (hc0_10 : aa.length ≤ am) (h : impl_codeIP.f ae af ag ah ac ai aj ak al ab aa = some r) :
 Calls Try.prog 41 #[.agg #[.int .i64 ae, .int .i64 af, .bool ag, .bool ah, .int .i64 ac, .int .i64 ai, .int .i64 aj, .int .i64 ak, .int .i64 al, .slice A0_9 ab.length an, .slice A0_10 aa.length am]] w fun e w' => e = .returned (.int .i64 r) ∧ Below w.heap.size w w' := by
 have hu25 := Try.underlying25
 have HR0_9 := Aside0.mk hr0_9
 have aQ := Aside0.mk hc0_9
 clear hr0_9 hc0_9
 have HR0_10 := Aside0.mk hr0_10
 have au := Aside0.mk hc0_10
 clear hr0_10 hc0_10
 have HB := Aside0.mk (Below.refl w.heap.size w)
 have H : ((impl_okIP.f ae af ag ah ac ai aj ak al ab aa).bind fun aP => (if aP = true then (if (wrap64 ((wrap64 (20 + (ab.length : Int))) + (aa.length : Int))) > 65535 then (some 7) else (if (wrap64 (ac + (aa.length : Int))) > 65535 then (some 7) else (some 0))) else (some 1))) = some r := h
 clear h
 replace H := Option.bind_eq_some_iff.mp H
 obtain ⟨aP, A20, H⟩ := H
 have A2 := Aside0.mk A20
 clear A20
 by_cases c3 : aP = true
 subst c3
 have H1 : (if (wrap64 ((wrap64 (20 + (ab.length : Int))) + (aa.length : Int))) > 65535 then (some 7) else (if (wrap64 (ac + (aa.length : Int))) > 65535 then (some 7) else (some 0))) = some r := by rw [if_pos rfl] at H; exact H
 clear H
 have H := H1
 clear H1
 by_cases c4 : (wrap64 ((wrap64 (20 + (ab.length : Int))) + (aa.length : Int))) > 65535
 rw [if_pos c4] at H
 have c4b0 : decide (65535 < (wrap64 ((wrap64 (20 + (ab.length : Int))) + (aa.length : Int)))) = true := decide_eq_true c4
 clear c4
 obtain rfl := Option.some.inj H
 rotate_left
 rw [if_neg c4] at H
 have c4b0 : decide (65535 < (wrap64 ((wrap64 (20 + (ab.length : Int))) + (aa.length : Int)))) = false := decide_eq_false c4
 clear c4
 by_cases c5 : (wrap64 (ac + (aa.length : Int))) > 65535
 rw [if_pos c5] at H
 have c5b0 : decide (65535 < (wrap64 (ac + (aa.length : Int)))) = true := decide_eq_true c5
 clear c5
 obtain rfl := Option.some.inj H
 rotate_left
 rw [if_neg c5] at H
 have c5b0 : decide (65535 < (wrap64 (ac + (aa.length : Int)))) = false := decide_eq_false c5
 clear c5
 obtain rfl := Option.some.inj H
 rotate_left
 replace c3 := Bool.eq_false_iff.mpr c3
 subst c3
 have H1 : (some 1) = some r := by rw [if_neg (show ¬ (false = true) by decide)] at H; exact H
 clear H
 have H := H1
 clear H1
 obtain rfl := Option.some.inj H
 rotate_left
 all_goals (
 go_enter Try.func41, Try.ntmps41
 )
 iterate 3 (
 focus (
 go_wp2_with (first | ((with_reducible refine gate_dst (N := 1) rfl ?_); (try (refine gate_guard (by rfl) ?_; dsimp only)); refine boxE 1 #[.int .i64 ae, .int .i64 af, .bool ag, .bool ah, .int .i64 ac, .int .i64 ai, .int .i64 aj, .int .i64 ak, .int .i64 al, .slice A0_9 ab.length an, .slice A0_10 aa.length am] 25 ?_; intro ao hg aR hbox hb; have ad := Aside0.mk (hbox); have ap := Aside0.mk ((by rw [hg]; exact (below_size wB) : w.heap.size ≤ ao)); replace HB := Aside0.mk (below_step wB hb); have aS := ap; clear hb hbox hg; obtain ⟨⟨av, aw, ax, ay, az, aA, aB, aC, aD, aE, aq⟩, aF, aG, aH, aI, aJ, aK, aL, aM, aN, aO, ar⟩ := cells11 ad.out) | ((with_reducible refine gate_callee (f := 70) rfl ?_); refine gL (some 4) Try.func70 #[.agg #[.int .i64 ae, .int .i64 af, .bool ag, .bool ah, .int .i64 ac, .int .i64 ai, .int .i64 aj, .int .i64 ak, .int .i64 al, .slice A0_9 ab.length an, .slice A0_10 aa.length am]] ?_; (with_reducible refine (impl_okIP.calls ae af ag ah ac ai aj ak al _ _ ab _ _ aa true _ ?side1 ?side2 ?side3 ?side4 A2.out).mono ?_); (case side1 => exact Kd.C_below HR0_9.out wB); (case side2 => exact aQ.out); (case side3 => exact Kd.C_below HR0_10.out wB); (case side4 => exact au.out); rintro e aT ⟨rfl, hb⟩; refine ⟨_, rfl, ?_⟩; replace ad := Aside0.mk (blk_below (Bh ad) hb); replace HB := Aside0.mk (below_step wB hb); clear hb; obtain ⟨⟨aW, aX, aY, aZ, a0, a1, a2, a3, a4, a5, aU⟩, a6, a7, a8, a9, ba, bb, bc, bd, be, bf, aV⟩ := cells11 ad.out))
 go_ret
 exact ⟨eR, wB⟩
 )
 )
 {
 go_wp2_with (first | ((with_reducible refine gate_dst (N := 1) rfl ?_); (try (refine gate_guard (by rfl) ?_; dsimp only)); refine boxE 1 #[.int .i64 ae, .int .i64 af, .bool ag, .bool ah, .int .i64 ac, .int .i64 ai, .int .i64 aj, .int .i64 ak, .int .i64 al, .slice A0_9 ab.length an, .slice A0_10 aa.length am] 25 ?_; intro ao hg aR hbox hb; have ad := Aside0.mk (hbox); have ap := Aside0.mk ((by rw [hg]; exact (below_size wB) : w.heap.size ≤ ao)); replace HB := Aside0.mk (below_step wB hb); have aS := ap; clear hb hbox hg; obtain ⟨⟨av, aw, ax, ay, az, aA, aB, aC, aD, aE, aq⟩, aF, aG, aH, aI, aJ, aK, aL, aM, aN, aO, ar⟩ := cells11 ad.out) | ((with_reducible refine gate_callee (f := 70) rfl ?_); refine gL (some 4) Try.func70 #[.agg #[.int .i64 ae, .int .i64 af, .bool ag, .bool ah, .int .i64 ac, .int .i64 ai, .int .i64 aj, .int .i64 ak, .int .i64 al, .slice A0_9 ab.length an, .slice A0_10 aa.length am]] ?_; (with_reducible refine (impl_okIP.calls ae af ag ah ac ai aj ak al _ _ ab _ _ aa false _ ?side1 ?side2 ?side3 ?side4 A2.out).mono ?_); (case side1 => exact Kd.C_below HR0_9.out wB); (case side2 => exact aQ.out); (case side3 => exact Kd.C_below HR0_10.out wB); (case side4 => exact au.out); rintro e aT ⟨rfl, hb⟩; refine ⟨_, rfl, ?_⟩; replace ad := Aside0.mk (blk_below (Bh ad) hb); replace HB := Aside0.mk (below_step wB hb); clear hb))
 go_ret
 exact ⟨eR, wB⟩
 }

/-! ### impl_put: function 54 -/
def impl_put.l0 : Nat → List Int → Int → Int → Option (List Int)
  | 0, _, _, _ => none
  | k + 1, x0, x2, x7 => if x7 ≥ 0 then (if 0 ≤ (wrap64 (8 * x7)) then (if x0.length < 140737488355328 then (impl_put.l0 k (x0 ++ [(shr .u64 (IntKind.u64.wrap (x2)) (wrap64 (8 * x7))) % 256]) x2 (wrap64 (x7 - 1))) else (none)) else (none)) else (some x0)
def impl_put.f (k : Nat) (l0 : List Int) (a1 : Int) (a2 : Int) : Option (List Int) := impl_put.l0 k l0 a2 (wrap64 (a1 - 1))
theorem impl_put.mono_l : ∀ k, (∀ y0 y1 y2, LeO (impl_put.l0 k y0 y1 y2) (impl_put.l0 (k + 1) y0 y1 y2))
  | 0 => fun _ _ _ r h => by simp [impl_put.l0] at h
  | k + 1 => by
    have ih0 := impl_put.mono_l k
    · intro y0 y1 y2
      unfold impl_put.l0
      repeat' first
      | (with_reducible exact ih0 _ _ _)
      | (with_reducible exact LeO.refl _)
      | (with_reducible exact LeO.none _)
      | (with_reducible refine LeO.ite ?_ ?_)
      | (with_reducible refine LeO.bind ?_ (fun _ => ?_))
      | exact ih0 _ _ _
      | exact LeO.none _
      | refine LeO.ite ?_ ?_
      | refine LeO.bind ?_ (fun _ => ?_)
theorem impl_put.mono : ∀ a0 a1 a2 k, LeO (impl_put.f k a0 a1 a2) (impl_put.f (k + 1) a0 a1 a2) := by
 intro a0 a1 a2 k
 have ih0 := impl_put.mono_l k
 unfold impl_put.f
 repeat' first
     | (with_reducible exact ih0 _ _ _)
     | (with_reducible exact LeO.refl _)
     | (with_reducible exact LeO.none _)
     | (with_reducible refine LeO.ite ?_ ?_)
     | (with_reducible refine LeO.bind ?_ (fun _ => ?_))
     | exact ih0 _ _ _
     | exact LeO.none _
     | refine LeO.ite ?_ ?_
     | refine LeO.bind ?_ (fun _ => ?_)
set_option maxHeartbeats 60000000 in
set_option maxRecDepth 100000 in
theorem impl_put.calls (k : Nat) (P0_ : Nat → Prop) (u9000_ : Value) (l0 : List Int) (a1 : Int) (a2 : Int) (r : List Int) (w0 w : World) (hB : Below w0.heap.size w0 w) (al : Kd.R (Kd.int .u8) 5 w w0.heap.size P0_ u9000_ l0) (h : impl_put.f k l0 a1 a2 = some r) :
 Calls Try.prog 54 #[u9000_, .int .i64 a1, .int .i64 a2] w fun e w' => ∃ v0_ : Value, e = .returned (v0_) ∧ Kd.R (Kd.int .u8) 5 w' w0.heap.size (fun k_ => (P0_ k_ ∨ w.heap.size ≤ k_)) v0_ r ∧ Below w0.heap.size w0 w' ∧ Kept w w' (fun k_ => P0_ k_) := by
 have am := Aside0.mk (show Kd.R (Kd.int .u8) 5 w w0.heap.size (fun k_ => (P0_ k_ ∨ w.heap.size ≤ k_)) u9000_ l0 from Kd.R_mono al (fun k_ hk => (.inl hk)))
 have HK := Aside0.mk (Kept.refl w (fun k_ => P0_ k_))
 have HW0 := Aside0.mk hB.size
 have HB := Aside0.mk hB
 clear hB
 have H : (impl_put.l0 k l0 a2 (wrap64 (a1 - 1))) = some r := h
 clear h
 have H' := Aside0.mk H
 clear H
 go_enter Try.func54, Try.ntmps54
 go_wp2
 go_loopg [0, 7] k (fun kq v0 v7 w' => ∃ (ac : List Int) (ab : Int), v7 = .int .i64 ab ∧ Aside0 (impl_put.l0 kq ac a2 ab = some r) ∧ Aside0 (kq ≤ k) ∧ Aside0 (Kd.R (Kd.int .u8) 5 w' w0.heap.size (fun k_ => (P0_ k_ ∨ w.heap.size ≤ k_)) v0 ac) ∧ Aside0 (Kept w w' (fun k_ => P0_ k_)) ∧ Aside0 (Below w0.heap.size w0 w'))
 case atStart => exact ⟨(l0), (wrap64 (a1 - 1)), eS, H', ⟨Nat.le_refl _⟩, ⟨Rh am⟩, ⟨by repeat (first | (with_reducible first | exact HK.out | apply Kept.alloc | apply Kept.drewN | apply Kept.drew) | exact HK.out)⟩, ⟨wB⟩⟩
 case round => (
 clear H'
 obtain ⟨ac, ab, rfl, HA, ak, HO_0, HK, HB⟩ := hrel
 cases gk with
 | zero => exact absurd HA.out (by simp [impl_put.l0])
 | succ k1 => {
 have H := HA.out
 clear HA
 simp only [impl_put.l0] at H
 by_cases ae : ab ≥ 0
 {
 rw [if_pos ae] at H
 have c1001b0 : decide (0 ≤ ab) = true := decide_eq_true ae
 clear ae
 obtain ⟨aa, hji1002⟩ : ∃ j_ : Int, (wrap64 (8 * ab)) = j_ := ⟨_, rfl⟩
 replace H : (if 0 ≤ (aa) then (if ac.length < 140737488355328 then (impl_put.l0 k1 (ac ++ [(shr .u64 (IntKind.u64.wrap (a2)) (aa)) % 256]) a2 (wrap64 (ab - 1))) else (none)) else (none)) = some r := by first | (rw [hji1002] at H; exact H) | (simp only [hji1002] at H ⊢; exact H)
 have hji1002w : (IntKind.i64.wrap (8 * ab)) = aa := (i64_w _).trans hji1002
 by_cases af : 0 ≤ (aa)
 {
 rw [if_pos af] at H
 have c1003b0 := eq_true af
 have c1003b1 : decide (0 ≤ (aa)) = true := decide_eq_true af
 clear af
 obtain ⟨ad, hji1004⟩ : ∃ j_ : Int, (shr .u64 (IntKind.u64.wrap (a2)) (aa)) = j_ := ⟨_, rfl⟩
 replace H : (if ac.length < 140737488355328 then (impl_put.l0 k1 (ac ++ [(ad) % 256]) a2 (wrap64 (ab - 1))) else (none)) = some r := by first | (rw [hji1004] at H; exact H) | (simp only [hji1004] at H ⊢; exact H)
 have hji1004_ : ((IntKind.u64.wrap (a2)) / 2 ^ min (aa).toNat 64) = ad := hji1004
 have hji1004z : (aa) ≤ 64 → ((IntKind.u64.wrap (a2)) / 2 ^ (aa).toNat) = ad := shr_small hji1004
 by_cases ah : ac.length < 140737488355328
 {
 rw [if_pos ah] at H
 have LMc1005 := Aside0.mk ah
 clear ah
 obtain ⟨ai, ag⟩ : ∃ y_ : List Int, y_ = (ac ++ [(ad) % 256]) := ⟨_, rfl⟩
 replace H : (impl_put.l0 k1 ai a2 (wrap64 (ab - 1))) = some r := by first | (rw [ag]; with_reducible exact H) | (have H2_ := (Option.bind_some _ _).symm.trans H; rw [ag]; with_reducible exact H2_) | (have H2_ := (Option.bind_some _ _).symm.trans H; with_reducible exact H2_) | with_reducible exact H | (rw [ag]; exact H) | exact H
 have Ny140 := Aside0.mk ag
 clear ag
 have H' := Aside0.mk H
 clear H
 go_wp2_with (first | ((with_reducible refine gate_builtin (b := .append) (xs := #[.tmp 14, .tmp 21]) rfl ?_); at_builtin; refine Kd.R_append (Kd.int .u8) (w0 := w0) w0.heap.size rfl (.tmp 14) (.tmp 21) 22 5 (.int .u8 0) 1 rfl Try.underlying22 info5 rfl (by decide) (by omega) u0 ac ((ad) % 256) [.int .u8 ((ad) % 256)] (fun k_ => (P0_ k_ ∨ w.heap.size ≤ k_)) (fun _ => False) rfl rfl ?aP (fun _ hk => hk.elim) ?aF ?aO ?aB ?aS ?aL ?_; (case aP => exact rfl); (case aB => exact wB); (case aF => exact (fun k_ hk => (.inr (Nat.le_trans (by first | exact HK.out.1 | exact (show Kept w _ (fun k_ => P0_ k_) from by repeat (first | (with_reducible first | exact HK.out | apply Kept.alloc | apply Kept.drewN | apply Kept.drew) | exact HK.out)).1) hk)))); (case aO => exact (Rh HO_0)); (case aS => exact (below_size wB)); (case aL => have := LMc1005.out; omega); intro ao an ho hb hg hat; rw [← Ny140.out] at ho; replace HB := Aside0.mk (hb); replace HK := Aside0.mk (Kept.of_grown (S := (fun k_ => P0_ k_)) hg (by repeat (first | (with_reducible first | exact HK.out | apply Kept.alloc | apply Kept.drewN | apply Kept.drew) | exact HK.out)) (fun k_ e_ => (HO_0.out.1 k_ e_))); have aj := Aside0.mk (ho); clear HO_0; clear ho hb hg hat))
 go_roundg k1
 case measure => have := ak.out; omega
 case rel => exact ⟨(ai), (wrap64 (ab - 1)), eS, H', ⟨by have := ak.out; omega⟩, ⟨Rh aj⟩, ⟨by repeat (first | (with_reducible first | exact HK.out | apply Kept.alloc | apply Kept.drewN | apply Kept.drew) | exact HK.out)⟩, ⟨wB⟩⟩
 }
 {
 rw [if_neg ah] at H
 exact absurd H (by simp)
 }
 }
 {
 rw [if_neg af] at H
 exact absurd H (by simp)
 }
 }
 {
 rw [if_neg ae] at H
 have c1001b0 : decide (0 ≤ ab) = false := decide_eq_false ae
 clear ae
 obtain rfl := Option.some.inj H
 go_wp2
 go_ret
 exact ⟨_, eR, by (with_reducible repeat (first | apply Kd.R_alloc | apply Kd.R_drewN | apply Kd.R_drew)); exact HO_0.out, wB, by repeat (first | (with_reducible first | exact HK.out | apply Kept.alloc | apply Kept.drewN | apply Kept.drew) | exact HK.out)⟩
 }
 }
 )

end Go.Proofs.Ytckhadlmhbhngaa.PFnComplain
